/- RigFirst. -/
import Derived.Test.YtmolckndbmjgfaaMrBg
import Derived.Test.YtmolckndbmjgfaaMrAe
namespace Go.MR
open Go Go.Sx Go.Proofs
set_option linter.unusedVariables false
set_option linter.unusedSimpArgs false
noncomputable section
def hasS (l : List Int) (n : Int) : Bool := l.any fun x => x == n
theorem hasS_step {l : List Int} {i n : Int} (h0 : 0 ≤ i) (h : i < l.length) : hasS (l.drop i.toNat) n = ((l.getD i.toNat 0 == n) || hasS (l.drop (i + 1).toNat) n) := by
  rw [drop_step (0 : Int) h0 h, hasS, List.any_cons]; rfl
theorem hasS_iff {l : List Int} {n : Int} : hasS l n = true ↔ n ∈ l := by
  unfold hasS
  rw [List.any_eq_true]
  constructor
  · rintro ⟨x, h1, h2⟩
    rw [beq_iff_eq] at h2
    exact h2 ▸ h1
  · exact fun h => ⟨n, h, by simp⟩
def L_hasI : Lay := { slots := [(0, .val tIs), (1, .val tI), (5, .val tI)] }
def L_hasI_0 : Lay := { slots := [(4, .val .bool)] }
def L_hasI_1 : Lay := { slots := [] }
def X_hasI : Exit → St → Option Lay
  | .ret, _ => some L_hasI_0
  | .exit 0, _ => some L_hasI_1
  | _, _ => none
abbrev C_hasI : Code := loopC (bodyOf Try.f66) 0
theorem B_hasI (l : List Int) (n i : Int) : loopBodyA (P := P) [] (lpOf []) [] 18 noU (inner C_hasI) L_hasI X_hasI (α := List Int × Int × Int × Unit) (fun x => x) (fun x => x) (l, n, i, ()) =
  Tree.cond (decide (i < (↑(List.length l) : Int))) (Tree.need ((0 : Int) ≤ i ∧ i < (↑(List.length l) : Int)) (Tree.cond (List.getD l (Int.toNat i) (0 : Int) == n) (Tree.leaf (Sum.inr (Exit.ret, Lay.st L_hasI_0 noU (true, PUnit.unit)))) (Tree.leaf (Sum.inl (l, n, IntKind.wrap IntKind.i64 (i + (1 : Int)), PUnit.unit))))) (Tree.leaf (Sum.inr (Exit.exit (0 : Nat), Lay.st L_hasI_1 noU PUnit.unit))) := by kernel_rfl
def inv_hasI : List Int × Int × Int × Unit → Prop := fun (l, n, i, ()) => 0 ≤ i ∧ i ≤ l.length ∧ (l.length : Int) < 2 ^ 62
def O_hasI : List Int × Int × Int × Unit → Tree (Exit × St) := fun (l, n, i, ()) => .cond (hasS (l.drop i.toNat) n) (.leaf (.ret, L_hasI_0.st noU ((true), ()))) (.leaf (.exit 0, L_hasI_1.st noU ()))
def R_hasI : LRun := runOf 18 L_hasI (fun x => x) (inv_hasI) (O_hasI)
theorem K_hasI : LoopOk P [] 18 none noU C_hasI (R_hasI) := by
  refine loop_of hm (cx := []) [] (xl := X_hasI) (α := List Int × Int × Int × Unit) (fun x => x) (fun (l, n, i, ()) => ((l.length : Int) - i).toNat) (fun _ => rfl) (by kernel_rfl) (by kernel_rfl) ?_ (by kernel_rfl) trivial ?_
  · intro e S L' h
    unfold X_hasI at h
    split at h <;> first | (cases h; done) | (cases h; kernel_rfl) | (rcases bif_some h with h | h <;> cases h <;> kernel_rfl)
  · rintro ⟨l, n, i, ⟨⟩⟩ hinv Q hQ
    refine hold_of_eq (B_hasI l n i) ?_
    obtain ⟨h0, h1, h2⟩ := hinv
    rw [W_id (n := i + 1) (by omega) (by omega)]
    unfold O_hasI at hQ
    dsimp only at hQ
    refine ⟨fun c1 => ?_, fun c1 => ?_⟩
    · have d1 : i < l.length := of_decide_eq_true c1
      rw [hasS_step h0 d1] at hQ
      refine ⟨⟨h0, d1⟩, fun c2 => ?_, fun c2 => ?_⟩
      · rw [show (l.getD i.toNat 0 == n) = true from c2, Bool.true_or] at hQ
        exact hQ.1 rfl
      · rw [show (l.getD i.toNat 0 == n) = false from c2, Bool.false_or] at hQ
        exact ⟨⟨⟨by omega, by omega, h2⟩, by show ((l.length : Int) - (i + 1)).toNat < ((l.length : Int) - i).toNat; omega⟩, hQ⟩
    · rw [drop_end (of_decide_eq_false c1)] at hQ
      exact hQ.2 rfl
theorem T_HasInt (l : List Int) (n : Int) : fnTree (P := P) [] (lpOf [(0, R_hasI)]) Try.f66 (encL 0 [.val tIs, .val tI] (l, n, ())) =
  Tree.need (inv_hasI (l, n, (0 : Int), ())) (Tree.cond (hasS (List.drop (Int.toNat (0 : Int)) l) n) (Tree.leaf (SV.bool true)) (Tree.leaf (SV.bool false))) := by kernel_rfl
def c_HasInt : PC P := PC.of (α := List Int × Int × Unit) 66 [.val tIs, .val tI] (fun x => x) (fun x => x) (fun _ => rfl)
  (fun x => some ((x.1.length : Int) < 2 ^ 62))
  (fun x => .bool (hasS x.1 x.2.1)) (by kernel_rfl) (by
    rintro ⟨l, n, ⟨⟩⟩ hp
    refine fn_of hm (by kernel_rfl) (by kernel_rfl) (T_HasInt l n) ⟨K_hasI, trivial⟩ ?_
    try dsimp only at hp
    try dsimp only
    have hp' : (l.length : Int) < 2 ^ 62 := hp
    exact ⟨⟨by decide, by omega, hp'⟩, fun c1 => congrArg SV.bool (Eq.symm c1), fun c1 => congrArg SV.bool (Eq.symm c1)⟩)
def L_SameIntsY : Lay := { slots := [(0, .val tIs), (1, .val tIs)] }
theorem T_SameIntsY (a b : List Int) : mTree (P := P) [] (lpOf [(0, R_sameI)]) Try.f36 L_SameIntsY true (a, b, ()) =
  Tree.need (inv_sameI (a, b, (0 : Int), ())) (Tree.cond (eqC (List.drop (Int.toNat (0 : Int)) a) (List.drop (Int.toNat (0 : Int)) b)) (Tree.leaf { res := SV.bool ((↑(List.length a) : Int) == (↑(List.length b) : Int)), boxes := [] }) (Tree.leaf { res := SV.bool false, boxes := [] })) := by kernel_rfl
def c_SameIntsY : XC P := XC.of (α := List Int × List Int × Unit) 36 L_SameIntsY (fun x => x) (fun x => x) (fun _ => rfl)
  (fun x => some ((x.1.length : Int) < 2 ^ 62))
  (fun x => ⟨.bool (decide (x.1 = x.2.1)), [], []⟩) (by kernel_rfl) (by kernel_rfl) (by
    rintro ⟨a, b, ⟨⟩⟩ hp
    refine m_of hm (own := true) (by kernel_rfl) (by kernel_rfl) (by kernel_rfl) (T_SameIntsY a b) ⟨K_sameI, trivial⟩ ?_
    try dsimp only at hp
    try dsimp only
    have hp' : (a.length : Int) < 2 ^ 62 := hp
    rw [← eqC_eq]
    refine ⟨⟨by decide, by omega, by omega, hp'⟩, fun c1 => ?_, fun c1 => ?_⟩
    · exact congrArg (fun z => (⟨SV.bool z, [], []⟩ : MOut)) (by rw [show eqC a b = true from c1, Bool.true_and])
    · exact congrArg (fun z => (⟨SV.bool z, [], []⟩ : MOut)) (by rw [show eqC a b = false from c1, Bool.false_and]))
def req5 (n : Int) (x : Req) : Req := (x.1 % n, IntKind.wrap IntKind.i64 (x.2.1 % 3 - 1), x.2.2 % 5)
def fsS (n : Int) : List Req → List Req → Int → List Req × Int
  | x :: l, som, f => fsS n l (som ++ [req5 n x]) (if f < 0 ∨ (req5 n x).2.2 < ((som ++ [req5 n x]).getD f.toNat zReq).2.2 then som.length else f)
  | [], som, f => (som, f)
theorem fsS_step {n i : Int} {l som : List Req} {f : Int} (h0 : 0 ≤ i) (h : i < l.length) : fsS n (l.drop i.toNat) som f = fsS n (l.drop (i + 1).toNat) (som ++ [req5 n (l.getD i.toNat zReq)]) (if f < 0 ∨ (req5 n (l.getD i.toNat zReq)).2.2 < ((som ++ [req5 n (l.getD i.toNat zReq)]).getD f.toNat zReq).2.2 then som.length else f) := by
  rw [drop_step zReq h0 h, fsS]
theorem fsS_nil (n : Int) (som : List Req) (f : Int) : fsS n [] som f = (som, f) := rfl
def L_rf0 : Lay := { slots := [(1, .val tVs), (6, .ptr 7283 0), (7, .val tIs), (8, .row 99 tV), (9, .val tI), (10, .val tI)], boxes := [(7283, [.val tIs, .val (.sl (.pair tI (.pair tI (.pair tI tV))))])] }
def L_rf0_0 : Lay := { slots := [(6, .ptr 7283 0), (7, .val tIs), (8, .row 99 tV), (9, .val tI)], boxes := [(7283, [.val tIs, .val (.sl (.pair tI (.pair tI (.pair tI tV))))])] }
def X_rf0 : Exit → St → Option Lay
  | .exit 0, _ => some L_rf0_0
  | _, _ => none
abbrev C_rf0 : Code := loopC (bodyOf Try.f16) 0
theorem B_rf0 (l : List V) (s : List Int) (q : List V) (f i : Int) (ps : List Int) (bs : List (Int × (Int × (Int × V)))) : loopBodyA (P := P) [c_Mod.gc] (lpOf []) [] 283 noU (inner C_rf0) L_rf0 X_rf0 (α := List V × Unit × List Int × List V × Int × Int × List Int × List (Int × (Int × (Int × V))) × Unit) (fun x => x) (fun x => x) (l, (), s, q, f, i, ps, bs, ()) =
  Tree.cond (decide (i < (↑(List.length l) : Int))) (Tree.need ((0 : Int) ≤ i ∧ i < (↑(List.length l) : Int)) (Tree.need ((0 : Int) < (↑(List.length s) : Int) ∧ R64 (↑(List.length s) : Int)) (Tree.need ((0 : Int) ≤ i ∧ i < (↑(List.length l) : Int)) (Tree.need ((0 : Int) < (3 : Int) ∧ R64 (3 : Int)) (Tree.need ((0 : Int) ≤ i ∧ i < (↑(List.length l) : Int)) (Tree.need ((0 : Int) < (5 : Int) ∧ R64 (5 : Int)) (Tree.need ((List.length q + List.length [((List.getD l (Int.toNat i) ((0 : Int), (0 : Int), (0 : Int))).fst % (↑(List.length s) : Int), IntKind.wrap IntKind.i64 ((List.getD l (Int.toNat i) ((0 : Int), (0 : Int), (0 : Int))).snd.fst % (3 : Int) - (1 : Int)), (List.getD l (Int.toNat i) ((0 : Int), (0 : Int), (0 : Int))).snd.snd % (5 : Int))]) * (24 : Nat) ≤ (140737488355328 : Nat)) (Tree.cond (decide (f < (0 : Int))) (Tree.leaf (Sum.inl (l, PUnit.unit, s, q ++ [((List.getD l (Int.toNat i) ((0 : Int), (0 : Int), (0 : Int))).fst % (↑(List.length s) : Int), IntKind.wrap IntKind.i64 ((List.getD l (Int.toNat i) ((0 : Int), (0 : Int), (0 : Int))).snd.fst % (3 : Int) - (1 : Int)), (List.getD l (Int.toNat i) ((0 : Int), (0 : Int), (0 : Int))).snd.snd % (5 : Int))], i, IntKind.wrap IntKind.i64 (i + (1 : Int)), ps, bs, PUnit.unit))) (Tree.need ((0 : Int) ≤ f ∧ f < (↑(List.length (q ++ [((List.getD l (Int.toNat i) ((0 : Int), (0 : Int), (0 : Int))).fst % (↑(List.length s) : Int), IntKind.wrap IntKind.i64 ((List.getD l (Int.toNat i) ((0 : Int), (0 : Int), (0 : Int))).snd.fst % (3 : Int) - (1 : Int)), (List.getD l (Int.toNat i) ((0 : Int), (0 : Int), (0 : Int))).snd.snd % (5 : Int))])) : Int)) (Tree.need (Int.toNat f < List.length (q ++ [((List.getD l (Int.toNat i) ((0 : Int), (0 : Int), (0 : Int))).fst % (↑(List.length s) : Int), IntKind.wrap IntKind.i64 ((List.getD l (Int.toNat i) ((0 : Int), (0 : Int), (0 : Int))).snd.fst % (3 : Int) - (1 : Int)), (List.getD l (Int.toNat i) ((0 : Int), (0 : Int), (0 : Int))).snd.snd % (5 : Int))])) (Tree.cond (decide ((List.getD l (Int.toNat i) ((0 : Int), (0 : Int), (0 : Int))).snd.snd % (5 : Int) < (List.getD (q ++ [((List.getD l (Int.toNat i) ((0 : Int), (0 : Int), (0 : Int))).fst % (↑(List.length s) : Int), IntKind.wrap IntKind.i64 ((List.getD l (Int.toNat i) ((0 : Int), (0 : Int), (0 : Int))).snd.fst % (3 : Int) - (1 : Int)), (List.getD l (Int.toNat i) ((0 : Int), (0 : Int), (0 : Int))).snd.snd % (5 : Int))]) (Int.toNat f) ((0 : Int), (0 : Int), (0 : Int))).snd.snd)) (Tree.leaf (Sum.inl (l, PUnit.unit, s, q ++ [((List.getD l (Int.toNat i) ((0 : Int), (0 : Int), (0 : Int))).fst % (↑(List.length s) : Int), IntKind.wrap IntKind.i64 ((List.getD l (Int.toNat i) ((0 : Int), (0 : Int), (0 : Int))).snd.fst % (3 : Int) - (1 : Int)), (List.getD l (Int.toNat i) ((0 : Int), (0 : Int), (0 : Int))).snd.snd % (5 : Int))], i, IntKind.wrap IntKind.i64 (i + (1 : Int)), ps, bs, PUnit.unit))) (Tree.leaf (Sum.inl (l, PUnit.unit, s, q ++ [((List.getD l (Int.toNat i) ((0 : Int), (0 : Int), (0 : Int))).fst % (↑(List.length s) : Int), IntKind.wrap IntKind.i64 ((List.getD l (Int.toNat i) ((0 : Int), (0 : Int), (0 : Int))).snd.fst % (3 : Int) - (1 : Int)), (List.getD l (Int.toNat i) ((0 : Int), (0 : Int), (0 : Int))).snd.snd % (5 : Int))], f, IntKind.wrap IntKind.i64 (i + (1 : Int)), ps, bs, PUnit.unit)))))))))))))) (Tree.leaf (Sum.inr (Exit.exit (0 : Nat), Lay.st L_rf0_0 noU (PUnit.unit, s, q, f, ps, bs, PUnit.unit)))) := by kernel_rfl
def inv_rf0 : List V × Unit × List Int × List V × Int × Int × List Int × List (Int × (Int × (Int × V))) × Unit → Prop := fun (l, (), s, q, f, i, ps, bs, ()) => (q.length : Int) = i ∧ i ≤ l.length ∧ (l.length : Int) ≤ 8 ∧ (s.length : Int) ≤ 4 ∧ 0 < s.length ∧ -1 ≤ f ∧ (f < 0 ∨ f < i)
def O_rf0 : List V × Unit × List Int × List V × Int × Int × List Int × List (Int × (Int × (Int × V))) × Unit → Tree (Exit × St) := fun (l, (), s, q, f, i, ps, bs, ()) => (.leaf (.exit 0, L_rf0_0.st noU ((), s, ((fsS s.length (l.drop i.toNat) q f).1), ((fsS s.length (l.drop i.toNat) q f).2), ps, bs, ())))
def R_rf0 : LRun := runOf 283 L_rf0 (fun x => x) (inv_rf0) (O_rf0)
theorem K_rf0 : LoopOk P [] 283 none noU C_rf0 (R_rf0) := by
  refine loop_of hm (cx := [c_Mod.gc]) [] (xl := X_rf0) (α := List V × Unit × List Int × List V × Int × Int × List Int × List (Int × (Int × (Int × V))) × Unit) (fun x => x) (fun (l, (), s, q, f, i, ps, bs, ()) => ((l.length : Int) - i).toNat) (fun _ => rfl) (by kernel_rfl) (by kernel_rfl) ?_ (by kernel_rfl) trivial ?_
  · intro e S L' h
    unfold X_rf0 at h
    split at h <;> first | (cases h; done) | (cases h; kernel_rfl) | (rcases bif_some h with h | h <;> cases h <;> kernel_rfl)
  · rintro ⟨l, ⟨⟩, s, q, f, i, ps, bs, ⟨⟩⟩ hinv Q hQ
    refine hold_of_eq (B_rf0 l s q f i ps bs) ?_
    obtain ⟨h0, h1, h2, h3, h4, h5, h6⟩ := hinv
    rw [W_id (n := i + 1) (by omega) (by omega)]
    have hQ' : Q (.exit 0, L_rf0_0.st noU ((), s, (fsS s.length (l.drop i.toNat) q f).1, (fsS s.length (l.drop i.toNat) q f).2, ps, bs, ())) := hQ
    refine ⟨fun c1 => ?_, fun c1 => ?_⟩
    · have d1 : i < l.length := of_decide_eq_true c1
      have r0 : 0 ≤ i ∧ i < (l.length : Int) := by omega
      rw [fsS_step (by omega) d1] at hQ'
      have mm : ((l.length : Int) - (i + 1)).toNat < ((l.length : Int) - i).toNat := by omega
      have la : ∀ x : Req, ((q ++ [x]).length : Int) = i + 1 := fun x => by rw [List.length_append, List.length_singleton]; omega
      refine ⟨r0, ⟨by omega, by omega, by omega⟩, r0, ⟨by decide, by decide, by decide⟩, r0, ⟨by decide, by decide, by decide⟩, by show (q.length + 1) * 24 ≤ 140737488355328; omega, fun c2 => ?_, fun c2 => ?_⟩
      · have d2 : f < 0 := of_decide_eq_true c2
        rw [if_pos (.inl d2), h0] at hQ'
        exact ⟨⟨⟨la _, by omega, h2, h3, h4, by omega, .inr (by omega)⟩, mm⟩, hQ'⟩
      · have d2 : ¬ f < 0 := of_decide_eq_false c2
        refine ⟨⟨by omega, by rw [la]; omega⟩, by have := la (req5 s.length (l.getD i.toNat zReq)); show f.toNat < (q ++ [req5 s.length (l.getD i.toNat zReq)]).length; omega, fun c3 => ?_, fun c3 => ?_⟩
        · have d3 : (req5 s.length (l.getD i.toNat zReq)).2.2 < ((q ++ [req5 s.length (l.getD i.toNat zReq)]).getD f.toNat zReq).2.2 := of_decide_eq_true c3
          rw [if_pos (.inr d3), h0] at hQ'
          exact ⟨⟨⟨la _, by omega, h2, h3, h4, by omega, .inr (by omega)⟩, mm⟩, hQ'⟩
        · have d3 : ¬ (req5 s.length (l.getD i.toNat zReq)).2.2 < ((q ++ [req5 s.length (l.getD i.toNat zReq)]).getD f.toNat zReq).2.2 := of_decide_eq_false c3
          rw [if_neg (fun h => by rcases h with h | h; exact d2 h; exact d3 h)] at hQ'
          exact ⟨⟨⟨la _, by omega, h2, h3, h4, by omega, .inr (by omega)⟩, mm⟩, hQ'⟩
    · rw [drop_end (of_decide_eq_false c1), fsS_nil] at hQ'
      exact hQ'
def L_rf2 : Lay := { slots := [(6, .ptr 7283 0), (7, .val tIs), (8, .val tVs), (9, .val tI), (12, .val tIs), (13, .val tIs), (17, .row 3 tI), (18, .row 4 .bool), (19, .val tI)], boxes := [(7283, [.val tIs, .val (.sl (.pair tI (.pair tI (.pair tI tV))))])] }
def L_rf2_0 : Lay := { slots := [(4, .val .bool)] }
def L_rf2_1 : Lay := { slots := [(6, .ptr 7283 0), (7, .val tIs), (8, .val tVs), (9, .val tI), (12, .val tIs), (13, .val tIs), (17, .row 3 tI), (18, .row 4 .bool)], boxes := [(7283, [.val tIs, .val (.sl (.pair tI (.pair tI (.pair tI tV))))])] }
def X_rf2 : Exit → St → Option Lay
  | .ret, _ => some L_rf2_0
  | .exit 2, _ => some L_rf2_1
  | _, _ => none
abbrev C_rf2 : Code := loopC (bodyOf Try.f16) 2
theorem B_rf2 (s : List Int) (q : List V) (f : Int) (m t sum : List Int) (gv : List Bool) (i : Int) (ps : List Int) (bs : List (Int × (Int × (Int × V)))) : loopBodyA (P := P) [] (lpOf []) [] 283 noU (inner C_rf2) L_rf2 X_rf2 (α := Unit × List Int × List V × Int × List Int × List Int × List Int × List Bool × Int × List Int × List (Int × (Int × (Int × V))) × Unit) (fun x => x) (fun x => x) ((), s, q, f, m, t, sum, gv, i, ps, bs, ()) =
  Tree.cond (decide (i < (↑(List.length t) : Int))) (Tree.need ((0 : Int) ≤ i ∧ i < (↑(List.length t) : Int)) (Tree.cond (decide (List.getD t (Int.toNat i) (0 : Int) < (0 : Int))) (Tree.leaf (Sum.inr (Exit.ret, Lay.st L_rf2_0 noU (false, PUnit.unit)))) (Tree.need ((0 : Int) ≤ i ∧ i < (↑(List.length t) : Int)) (Tree.cond (decide (List.getD t (Int.toNat i) (0 : Int) ≥ (↑(List.length q) : Int))) (Tree.leaf (Sum.inr (Exit.ret, Lay.st L_rf2_0 noU (false, PUnit.unit)))) (Tree.cond (decide (i > (0 : Int))) (Tree.need ((0 : Int) ≤ i ∧ i < (↑(List.length t) : Int)) (Tree.need ((0 : Int) ≤ IntKind.wrap IntKind.i64 (i - (1 : Int)) ∧ IntKind.wrap IntKind.i64 (i - (1 : Int)) < (↑(List.length t) : Int)) (Tree.cond (decide (List.getD t (Int.toNat i) (0 : Int) ≤ List.getD t (Int.toNat (IntKind.wrap IntKind.i64 (i - (1 : Int)))) (0 : Int))) (Tree.leaf (Sum.inr (Exit.ret, Lay.st L_rf2_0 noU (false, PUnit.unit)))) (Tree.need ((0 : Int) ≤ i ∧ i < (↑(List.length t) : Int)) (Tree.need ((0 : Int) ≤ List.getD t (Int.toNat i) (0 : Int) ∧ List.getD t (Int.toNat i) (0 : Int) < (↑(List.length q) : Int)) (Tree.need ((0 : Int) ≤ (List.getD q (Int.toNat (List.getD t (Int.toNat i) (0 : Int))) ((0 : Int), (0 : Int), (0 : Int))).fst ∧ (List.getD q (Int.toNat (List.getD t (Int.toNat i) (0 : Int))) ((0 : Int), (0 : Int), (0 : Int))).fst < (↑(List.length gv) : Int)) (Tree.need (Int.toNat (List.getD q (Int.toNat (List.getD t (Int.toNat i) (0 : Int))) ((0 : Int), (0 : Int), (0 : Int))).fst < List.length gv) (Tree.cond (List.getD gv (Int.toNat (List.getD q (Int.toNat (List.getD t (Int.toNat i) (0 : Int))) ((0 : Int), (0 : Int), (0 : Int))).fst) false) (Tree.leaf (Sum.inr (Exit.ret, Lay.st L_rf2_0 noU (false, PUnit.unit)))) (Tree.need ((0 : Int) ≤ i ∧ i < (↑(List.length t) : Int)) (Tree.need ((0 : Int) ≤ List.getD t (Int.toNat i) (0 : Int) ∧ List.getD t (Int.toNat i) (0 : Int) < (↑(List.length q) : Int)) (Tree.need ((0 : Int) ≤ i ∧ i < (↑(List.length t) : Int)) (Tree.need ((0 : Int) ≤ List.getD t (Int.toNat i) (0 : Int) ∧ List.getD t (Int.toNat i) (0 : Int) < (↑(List.length q) : Int)) (Tree.need ((0 : Int) ≤ i ∧ i < (↑(List.length t) : Int)) (Tree.need ((0 : Int) ≤ List.getD t (Int.toNat i) (0 : Int) ∧ List.getD t (Int.toNat i) (0 : Int) < (↑(List.length q) : Int)) (Tree.need ((0 : Int) ≤ (List.getD q (Int.toNat (List.getD t (Int.toNat i) (0 : Int))) ((0 : Int), (0 : Int), (0 : Int))).fst ∧ (List.getD q (Int.toNat (List.getD t (Int.toNat i) (0 : Int))) ((0 : Int), (0 : Int), (0 : Int))).fst < (↑(List.length sum) : Int)) (Tree.need (Int.toNat (List.getD q (Int.toNat (List.getD t (Int.toNat i) (0 : Int))) ((0 : Int), (0 : Int), (0 : Int))).fst < List.length sum) (Tree.need ((0 : Int) ≤ (List.getD q (Int.toNat (List.getD t (Int.toNat i) (0 : Int))) ((0 : Int), (0 : Int), (0 : Int))).fst ∧ (List.getD q (Int.toNat (List.getD t (Int.toNat i) (0 : Int))) ((0 : Int), (0 : Int), (0 : Int))).fst < (↑(List.length gv) : Int)) (Tree.need (Int.toNat (List.getD q (Int.toNat (List.getD t (Int.toNat i) (0 : Int))) ((0 : Int), (0 : Int), (0 : Int))).fst < List.length gv) (Tree.leaf (Sum.inl (PUnit.unit, s, q, f, m, t, List.set sum (Int.toNat (List.getD q (Int.toNat (List.getD t (Int.toNat i) (0 : Int))) ((0 : Int), (0 : Int), (0 : Int))).fst) (List.getD q (Int.toNat (List.getD t (Int.toNat i) (0 : Int))) ((0 : Int), (0 : Int), (0 : Int))).snd.fst, List.set gv (Int.toNat (List.getD q (Int.toNat (List.getD t (Int.toNat i) (0 : Int))) ((0 : Int), (0 : Int), (0 : Int))).fst) true, IntKind.wrap IntKind.i64 (i + (1 : Int)), ps, bs, PUnit.unit))))))))))))))))))))) (Tree.need ((0 : Int) ≤ i ∧ i < (↑(List.length t) : Int)) (Tree.need ((0 : Int) ≤ List.getD t (Int.toNat i) (0 : Int) ∧ List.getD t (Int.toNat i) (0 : Int) < (↑(List.length q) : Int)) (Tree.need ((0 : Int) ≤ (List.getD q (Int.toNat (List.getD t (Int.toNat i) (0 : Int))) ((0 : Int), (0 : Int), (0 : Int))).fst ∧ (List.getD q (Int.toNat (List.getD t (Int.toNat i) (0 : Int))) ((0 : Int), (0 : Int), (0 : Int))).fst < (↑(List.length gv) : Int)) (Tree.need (Int.toNat (List.getD q (Int.toNat (List.getD t (Int.toNat i) (0 : Int))) ((0 : Int), (0 : Int), (0 : Int))).fst < List.length gv) (Tree.cond (List.getD gv (Int.toNat (List.getD q (Int.toNat (List.getD t (Int.toNat i) (0 : Int))) ((0 : Int), (0 : Int), (0 : Int))).fst) false) (Tree.leaf (Sum.inr (Exit.ret, Lay.st L_rf2_0 noU (false, PUnit.unit)))) (Tree.need ((0 : Int) ≤ i ∧ i < (↑(List.length t) : Int)) (Tree.need ((0 : Int) ≤ List.getD t (Int.toNat i) (0 : Int) ∧ List.getD t (Int.toNat i) (0 : Int) < (↑(List.length q) : Int)) (Tree.need ((0 : Int) ≤ i ∧ i < (↑(List.length t) : Int)) (Tree.need ((0 : Int) ≤ List.getD t (Int.toNat i) (0 : Int) ∧ List.getD t (Int.toNat i) (0 : Int) < (↑(List.length q) : Int)) (Tree.need ((0 : Int) ≤ i ∧ i < (↑(List.length t) : Int)) (Tree.need ((0 : Int) ≤ List.getD t (Int.toNat i) (0 : Int) ∧ List.getD t (Int.toNat i) (0 : Int) < (↑(List.length q) : Int)) (Tree.need ((0 : Int) ≤ (List.getD q (Int.toNat (List.getD t (Int.toNat i) (0 : Int))) ((0 : Int), (0 : Int), (0 : Int))).fst ∧ (List.getD q (Int.toNat (List.getD t (Int.toNat i) (0 : Int))) ((0 : Int), (0 : Int), (0 : Int))).fst < (↑(List.length sum) : Int)) (Tree.need (Int.toNat (List.getD q (Int.toNat (List.getD t (Int.toNat i) (0 : Int))) ((0 : Int), (0 : Int), (0 : Int))).fst < List.length sum) (Tree.need ((0 : Int) ≤ (List.getD q (Int.toNat (List.getD t (Int.toNat i) (0 : Int))) ((0 : Int), (0 : Int), (0 : Int))).fst ∧ (List.getD q (Int.toNat (List.getD t (Int.toNat i) (0 : Int))) ((0 : Int), (0 : Int), (0 : Int))).fst < (↑(List.length gv) : Int)) (Tree.need (Int.toNat (List.getD q (Int.toNat (List.getD t (Int.toNat i) (0 : Int))) ((0 : Int), (0 : Int), (0 : Int))).fst < List.length gv) (Tree.leaf (Sum.inl (PUnit.unit, s, q, f, m, t, List.set sum (Int.toNat (List.getD q (Int.toNat (List.getD t (Int.toNat i) (0 : Int))) ((0 : Int), (0 : Int), (0 : Int))).fst) (List.getD q (Int.toNat (List.getD t (Int.toNat i) (0 : Int))) ((0 : Int), (0 : Int), (0 : Int))).snd.fst, List.set gv (Int.toNat (List.getD q (Int.toNat (List.getD t (Int.toNat i) (0 : Int))) ((0 : Int), (0 : Int), (0 : Int))).fst) true, IntKind.wrap IntKind.i64 (i + (1 : Int)), ps, bs, PUnit.unit))))))))))))))))))))))) (Tree.leaf (Sum.inr (Exit.exit (2 : Nat), Lay.st L_rf2_1 noU (PUnit.unit, s, q, f, m, t, sum, gv, ps, bs, PUnit.unit)))) := by kernel_rfl
def inv_rf2 : Unit × List Int × List V × Int × List Int × List Int × List Int × List Bool × Int × List Int × List (Int × (Int × (Int × V))) × Unit → Prop := fun ((), s, q, f, m, t, sum, gv, i, ps, bs, ()) => 0 ≤ i ∧ i ≤ t.length ∧ (t.length : Int) ≤ 12 ∧ t.Pairwise (· < ·) ∧ (∀ x ∈ t, 0 ≤ x ∧ x < q.length) ∧ (q.length : Int) ≤ 8 ∧ qOk s.length q ∧ sum.length = s.length ∧ gv.length = s.length ∧ (t.drop i.toNat).Pairwise (fun a b => mcQ q a ≠ mcQ q b) ∧ ∀ x ∈ t.drop i.toNat, gv.getD (mcQ q x).toNat false = false
def O_rf2 : Unit × List Int × List V × Int × List Int × List Int × List Int × List Bool × Int × List Int × List (Int × (Int × (Int × V))) × Unit → Tree (Exit × St) := fun ((), s, q, f, m, t, sum, gv, i, ps, bs, ()) => (.leaf (.exit 2, L_rf2_1.st noU ((), s, q, f, m, t, ((sgS q (t.drop i.toNat) (sum, gv)).1), ((sgS q (t.drop i.toNat) (sum, gv)).2), ps, bs, ())))
def R_rf2 : LRun := runOf 283 L_rf2 (fun x => x) (inv_rf2) (O_rf2)
theorem K_rf2 : LoopOk P [] 283 none noU C_rf2 (R_rf2) := by
  refine loop_of hm (cx := []) [] (xl := X_rf2) (α := Unit × List Int × List V × Int × List Int × List Int × List Int × List Bool × Int × List Int × List (Int × (Int × (Int × V))) × Unit) (fun x => x) (fun ((), s, q, f, m, t, sum, gv, i, ps, bs, ()) => ((t.length : Int) - i).toNat) (fun _ => rfl) (by kernel_rfl) (by kernel_rfl) ?_ (by kernel_rfl) trivial ?_
  · intro e S L' h
    unfold X_rf2 at h
    split at h <;> first | (cases h; done) | (cases h; kernel_rfl) | (rcases bif_some h with h | h <;> cases h <;> kernel_rfl)
  · rintro ⟨⟨⟩, s, q, f, m, t, sum, gv, i, ps, bs, ⟨⟩⟩ hinv Q hQ
    refine hold_of_eq (B_rf2 s q f m t sum gv i ps bs) ?_
    obtain ⟨h0, h1, h2, h3, h4, h5, h6, h7, h8, h9, h10⟩ := hinv
    rw [W_id (n := i + 1) (by omega) (by omega), W_id (n := i - 1) (by omega) (by omega)]
    have hQ' : Q (.exit 2, L_rf2_1.st noU ((), s, q, f, m, t, (sgS q (t.drop i.toNat) (sum, gv)).1, (sgS q (t.drop i.toNat) (sum, gv)).2, ps, bs, ())) := hQ
    refine ⟨fun c1 => ?_, fun c1 => ?_⟩
    · have d1 : i < t.length := of_decide_eq_true c1
      have r0 : 0 ≤ i ∧ i < (t.length : Int) := ⟨h0, d1⟩
      have mm : ((t.length : Int) - (i + 1)).toNat < ((t.length : Int) - i).toNat := by omega
      obtain ⟨y0, y1⟩ := h4 _ (getD_mem (d := (0 : Int)) (show i.toNat < t.length by omega))
      have hd := drop_step (0 : Int) h0 d1
      rw [hd] at h9 h10
      have hg := h10 _ (List.mem_cons_self ..)
      rw [sgS_step h0 d1] at hQ'
      have hlt : i > 0 → ¬ t.getD i.toNat 0 ≤ t.getD (i - 1).toNat 0 := fun hi => by
        have q1 : (i - 1).toNat < t.length := by omega
        have q2 : i.toNat < t.length := by omega
        have := List.pairwise_iff_getElem.1 h3 _ _ q1 q2 (by omega)
        rw [List.getD_eq_getElem?_getD, List.getElem?_eq_getElem q2, Option.getD_some, List.getD_eq_getElem?_getD, List.getElem?_eq_getElem q1, Option.getD_some]
        omega
      obtain ⟨x0, x1⟩ := (qOk_at h6 y0 y1).1
      have z1 : (mcQ q (t.getD i.toNat 0)).toNat < gv.length := by omega
      have hds := (List.pairwise_cons.1 h9).1
      have h9' := (List.pairwise_cons.1 h9).2
      have h10' : ∀ x ∈ t.drop (i + 1).toNat, (gv.set (mcQ q (t.getD i.toNat 0)).toNat true).getD (mcQ q x).toNat false = false := fun x hx => by
        have hxr := h4 x (List.mem_of_mem_drop hx)
        have hxm := (qOk_at h6 hxr.1 hxr.2).1
        have := hds x hx
        rw [getD_setF _ _ _ _ _ z1, if_neg (by omega)]
        exact h10 x (List.mem_cons_of_mem _ hx)
      generalize t.getD i.toNat 0 = y at *
      have y2 : y.toNat < q.length := by omega
      have yr : 0 ≤ y ∧ y < (q.length : Int) := ⟨y0, y1⟩
      change 0 ≤ (q.getD y.toNat (0, 0, 0)).1 at x0
      change (q.getD y.toNat (0, 0, 0)).1 < _ at x1
      change (q.getD y.toNat (0, 0, 0)).1.toNat < _ at z1
      have zs : (q.getD y.toNat (0, 0, 0)).1.toNat < sum.length := by omega
      have n1 : decide (y < 0) = false := decide_eq_false (by omega)
      have n2 : decide (y ≥ (q.length : Int)) = false := decide_eq_false (by omega)
      have fin : (inv_rf2 ((), s, q, f, m, t, sum.set (q.getD y.toNat (0, 0, 0)).1.toNat (q.getD y.toNat (0, 0, 0)).2.1, gv.set (q.getD y.toNat (0, 0, 0)).1.toNat true, i + 1, ps, bs, ())) := ⟨by omega, by omega, h2, h3, h4, h5, h6, by rw [List.length_set]; exact h7, by rw [List.length_set]; exact h8, h9', h10'⟩
      refine ⟨r0, fun c => absurd (n1.symm.trans c) (by decide), fun _ => ⟨r0, fun c => absurd (n2.symm.trans c) (by decide), fun _ => ⟨fun c2 => ?_, fun c2 => ?_⟩⟩⟩
      · have d2 := of_decide_eq_true c2
        exact ⟨r0, ⟨by omega, by omega⟩, fun c => absurd (of_decide_eq_true c) (hlt d2), fun _ => ⟨r0, yr, ⟨x0, by omega⟩, z1, fun c => absurd (hg.symm.trans c) (by decide), fun _ => ⟨r0, yr, r0, yr, r0, yr, ⟨x0, by omega⟩, zs, ⟨x0, by omega⟩, z1, ⟨fin, mm⟩, hQ'⟩⟩⟩
      · exact ⟨r0, yr, ⟨x0, by omega⟩, z1, fun c => absurd (hg.symm.trans c) (by decide), fun _ => ⟨r0, yr, r0, yr, r0, yr, ⟨x0, by omega⟩, zs, ⟨x0, by omega⟩, z1, ⟨fin, mm⟩, hQ'⟩⟩
    · rw [drop_end (of_decide_eq_false c1), sgS_nil] at hQ'
      exact hQ'
def L_rf4 : Lay := { slots := [(6, .ptr 7283 0), (7, .val tIs), (8, .val tVs), (9, .val tI), (12, .val tIs), (13, .val tIs), (17, .row 3 tI), (18, .row 4 .bool), (20, .val tI)], boxes := [(7283, [.val tIs, .val (.sl (.pair tI (.pair tI (.pair tI tV))))])] }
def L_rf4_0 : Lay := { slots := [(4, .val .bool)] }
def L_rf4_1 : Lay := { slots := [(12, .val tIs), (17, .row 3 tI)] }
def X_rf4 : Exit → St → Option Lay
  | .ret, _ => some L_rf4_0
  | .exit 4, _ => some L_rf4_1
  | _, _ => none
abbrev C_rf4 : Code := loopC (bodyOf Try.f16) 4
theorem B_rf4 (s : List Int) (q : List V) (f : Int) (m t sum : List Int) (gv : List Bool) (i : Int) (ps : List Int) (bs : List (Int × (Int × (Int × V)))) : loopBodyA (P := P) [c_Allowed.gc, c_AllowedX.gc, c_HasInt.gc, c_OwnIntsC.gc] (lpOf []) [] 283 noU (inner C_rf4) L_rf4 X_rf4 (α := Unit × List Int × List V × Int × List Int × List Int × List Int × List Bool × Int × List Int × List (Int × (Int × (Int × V))) × Unit) (fun x => x) (fun x => x) ((), s, q, f, m, t, sum, gv, i, ps, bs, ()) =
  Tree.cond (decide (i < (↑(List.length q) : Int))) (Tree.need ((0 : Int) ≤ (↑(List.length s) : Int) ∧ (↑(List.length s) : Int) = (↑(List.length s) : Int) ∧ (↑(List.length s) : Int) ≤ (70368744177664 : Int) ∧ (↑(8 : Nat) : Int) * (↑(List.length s) : Int) ≤ (140737488355328 : Int)) (Tree.need ((0 : Int) ≤ i ∧ i < (↑(List.length q) : Int)) (Tree.need ((0 : Int) ≤ i ∧ i < (↑(List.length q) : Int)) (Tree.need ((0 : Int) ≤ (List.getD q (Int.toNat i) ((0 : Int), (0 : Int), (0 : Int))).fst ∧ (List.getD q (Int.toNat i) ((0 : Int), (0 : Int), (0 : Int))).fst < (↑(List.length (List.replicate (Int.toNat (↑(List.length s) : Int)) (0 : Int))) : Int)) (Tree.need (Int.toNat (List.getD q (Int.toNat i) ((0 : Int), (0 : Int), (0 : Int))).fst < List.length (List.replicate (Int.toNat (↑(List.length s) : Int)) (0 : Int))) (Tree.need ((↑(List.length (List.set (List.replicate (Int.toNat (↑(List.length s) : Int)) (0 : Int)) (Int.toNat (List.getD q (Int.toNat i) ((0 : Int), (0 : Int), (0 : Int))).fst) (List.getD q (Int.toNat i) ((0 : Int), (0 : Int), (0 : Int))).snd.fst)) : Int) < (2 : Int) ^ (62 : Nat)) (Tree.cond (i == f) (Tree.cond (allowS (ps, bs) s (List.set (List.replicate (Int.toNat (↑(List.length s) : Int)) (0 : Int)) (Int.toNat (List.getD q (Int.toNat i) ((0 : Int), (0 : Int), (0 : Int))).fst) (List.getD q (Int.toNat i) ((0 : Int), (0 : Int), (0 : Int))).snd.fst)).fst (Tree.need ((↑(List.length t) : Int) < (2 : Int) ^ (62 : Nat)) (Tree.cond (!hasS t i) (Tree.leaf (Sum.inr (Exit.ret, Lay.st L_rf4_0 noU (false, PUnit.unit)))) (Tree.need (List.length m ≤ (1000 : Nat)) (Tree.need ((0 : Int) ≤ i ∧ i < (↑(List.length q) : Int)) (Tree.need ((0 : Int) ≤ i ∧ i < (↑(List.length q) : Int)) (Tree.need ((0 : Int) ≤ (List.getD q (Int.toNat i) ((0 : Int), (0 : Int), (0 : Int))).fst ∧ (List.getD q (Int.toNat i) ((0 : Int), (0 : Int), (0 : Int))).fst < (↑(List.length m) : Int)) (Tree.need (Int.toNat (List.getD q (Int.toNat i) ((0 : Int), (0 : Int), (0 : Int))).fst < List.length m) (Tree.need ((↑(List.length (List.set m (Int.toNat (List.getD q (Int.toNat i) ((0 : Int), (0 : Int), (0 : Int))).fst) (List.getD q (Int.toNat i) ((0 : Int), (0 : Int), (0 : Int))).snd.fst)) : Int) < (2 : Int) ^ (62 : Nat)) (Tree.need ((↑(List.length t) : Int) < (2 : Int) ^ (62 : Nat)) (Tree.cond (!hasS t i) (Tree.need ((0 : Int) ≤ i ∧ i < (↑(List.length q) : Int)) (Tree.need ((0 : Int) ≤ (List.getD q (Int.toNat i) ((0 : Int), (0 : Int), (0 : Int))).fst ∧ (List.getD q (Int.toNat i) ((0 : Int), (0 : Int), (0 : Int))).fst < (↑(List.length gv) : Int)) (Tree.need (Int.toNat (List.getD q (Int.toNat i) ((0 : Int), (0 : Int), (0 : Int))).fst < List.length gv) (Tree.cond (!List.getD gv (Int.toNat (List.getD q (Int.toNat i) ((0 : Int), (0 : Int), (0 : Int))).fst) false) (Tree.cond (allowS (ps, bs) s (List.set m (Int.toNat (List.getD q (Int.toNat i) ((0 : Int), (0 : Int), (0 : Int))).fst) (List.getD q (Int.toNat i) ((0 : Int), (0 : Int), (0 : Int))).snd.fst)).fst (Tree.leaf (Sum.inr (Exit.ret, Lay.st L_rf4_0 noU (false, PUnit.unit)))) (Tree.leaf (Sum.inl (PUnit.unit, s, q, f, m, t, sum, gv, IntKind.wrap IntKind.i64 (i + (1 : Int)), ps, bs, PUnit.unit)))) (Tree.leaf (Sum.inl (PUnit.unit, s, q, f, m, t, sum, gv, IntKind.wrap IntKind.i64 (i + (1 : Int)), ps, bs, PUnit.unit))))))) (Tree.leaf (Sum.inl (PUnit.unit, s, q, f, m, t, sum, gv, IntKind.wrap IntKind.i64 (i + (1 : Int)), ps, bs, PUnit.unit))))))))))))) (Tree.need (List.length m ≤ (1000 : Nat)) (Tree.need ((0 : Int) ≤ i ∧ i < (↑(List.length q) : Int)) (Tree.need ((0 : Int) ≤ i ∧ i < (↑(List.length q) : Int)) (Tree.need ((0 : Int) ≤ (List.getD q (Int.toNat i) ((0 : Int), (0 : Int), (0 : Int))).fst ∧ (List.getD q (Int.toNat i) ((0 : Int), (0 : Int), (0 : Int))).fst < (↑(List.length m) : Int)) (Tree.need (Int.toNat (List.getD q (Int.toNat i) ((0 : Int), (0 : Int), (0 : Int))).fst < List.length m) (Tree.need ((↑(List.length (List.set m (Int.toNat (List.getD q (Int.toNat i) ((0 : Int), (0 : Int), (0 : Int))).fst) (List.getD q (Int.toNat i) ((0 : Int), (0 : Int), (0 : Int))).snd.fst)) : Int) < (2 : Int) ^ (62 : Nat)) (Tree.need ((↑(List.length t) : Int) < (2 : Int) ^ (62 : Nat)) (Tree.cond (!hasS t i) (Tree.need ((0 : Int) ≤ i ∧ i < (↑(List.length q) : Int)) (Tree.need ((0 : Int) ≤ (List.getD q (Int.toNat i) ((0 : Int), (0 : Int), (0 : Int))).fst ∧ (List.getD q (Int.toNat i) ((0 : Int), (0 : Int), (0 : Int))).fst < (↑(List.length gv) : Int)) (Tree.need (Int.toNat (List.getD q (Int.toNat i) ((0 : Int), (0 : Int), (0 : Int))).fst < List.length gv) (Tree.cond (!List.getD gv (Int.toNat (List.getD q (Int.toNat i) ((0 : Int), (0 : Int), (0 : Int))).fst) false) (Tree.cond (allowS (ps, bs) s (List.set m (Int.toNat (List.getD q (Int.toNat i) ((0 : Int), (0 : Int), (0 : Int))).fst) (List.getD q (Int.toNat i) ((0 : Int), (0 : Int), (0 : Int))).snd.fst)).fst (Tree.leaf (Sum.inr (Exit.ret, Lay.st L_rf4_0 noU (false, PUnit.unit)))) (Tree.leaf (Sum.inl (PUnit.unit, s, q, f, m, t, sum, gv, IntKind.wrap IntKind.i64 (i + (1 : Int)), ps, bs, PUnit.unit)))) (Tree.leaf (Sum.inl (PUnit.unit, s, q, f, m, t, sum, gv, IntKind.wrap IntKind.i64 (i + (1 : Int)), ps, bs, PUnit.unit))))))) (Tree.leaf (Sum.inl (PUnit.unit, s, q, f, m, t, sum, gv, IntKind.wrap IntKind.i64 (i + (1 : Int)), ps, bs, PUnit.unit)))))))))))) (Tree.need (List.length m ≤ (1000 : Nat)) (Tree.need ((0 : Int) ≤ i ∧ i < (↑(List.length q) : Int)) (Tree.need ((0 : Int) ≤ i ∧ i < (↑(List.length q) : Int)) (Tree.need ((0 : Int) ≤ (List.getD q (Int.toNat i) ((0 : Int), (0 : Int), (0 : Int))).fst ∧ (List.getD q (Int.toNat i) ((0 : Int), (0 : Int), (0 : Int))).fst < (↑(List.length m) : Int)) (Tree.need (Int.toNat (List.getD q (Int.toNat i) ((0 : Int), (0 : Int), (0 : Int))).fst < List.length m) (Tree.need ((↑(List.length (List.set m (Int.toNat (List.getD q (Int.toNat i) ((0 : Int), (0 : Int), (0 : Int))).fst) (List.getD q (Int.toNat i) ((0 : Int), (0 : Int), (0 : Int))).snd.fst)) : Int) < (2 : Int) ^ (62 : Nat)) (Tree.need ((↑(List.length t) : Int) < (2 : Int) ^ (62 : Nat)) (Tree.cond (!hasS t i) (Tree.need ((0 : Int) ≤ i ∧ i < (↑(List.length q) : Int)) (Tree.need ((0 : Int) ≤ (List.getD q (Int.toNat i) ((0 : Int), (0 : Int), (0 : Int))).fst ∧ (List.getD q (Int.toNat i) ((0 : Int), (0 : Int), (0 : Int))).fst < (↑(List.length gv) : Int)) (Tree.need (Int.toNat (List.getD q (Int.toNat i) ((0 : Int), (0 : Int), (0 : Int))).fst < List.length gv) (Tree.cond (!List.getD gv (Int.toNat (List.getD q (Int.toNat i) ((0 : Int), (0 : Int), (0 : Int))).fst) false) (Tree.cond (allowS (ps, bs) s (List.set m (Int.toNat (List.getD q (Int.toNat i) ((0 : Int), (0 : Int), (0 : Int))).fst) (List.getD q (Int.toNat i) ((0 : Int), (0 : Int), (0 : Int))).snd.fst)).fst (Tree.leaf (Sum.inr (Exit.ret, Lay.st L_rf4_0 noU (false, PUnit.unit)))) (Tree.leaf (Sum.inl (PUnit.unit, s, q, f, m, t, sum, gv, IntKind.wrap IntKind.i64 (i + (1 : Int)), ps, bs, PUnit.unit)))) (Tree.leaf (Sum.inl (PUnit.unit, s, q, f, m, t, sum, gv, IntKind.wrap IntKind.i64 (i + (1 : Int)), ps, bs, PUnit.unit))))))) (Tree.leaf (Sum.inl (PUnit.unit, s, q, f, m, t, sum, gv, IntKind.wrap IntKind.i64 (i + (1 : Int)), ps, bs, PUnit.unit)))))))))))))))))) (Tree.leaf (Sum.inr (Exit.exit (4 : Nat), Lay.st L_rf4_1 noU (m, sum, PUnit.unit)))) := by kernel_rfl
def inv_rf4 : Unit × List Int × List V × Int × List Int × List Int × List Int × List Bool × Int × List Int × List (Int × (Int × (Int × V))) × Unit → Prop := fun ((), s, q, f, m, t, sum, gv, i, ps, bs, ()) => 0 ≤ i ∧ i ≤ q.length ∧ (q.length : Int) ≤ 8 ∧ qOk s.length q ∧ gv.length = s.length ∧ m.length = s.length ∧ (s.length : Int) ≤ 4 ∧ (t.length : Int) ≤ 12 ∧ (0 ≤ f → f < q.length → (allowS (ps, bs) s ((List.replicate s.length 0).set (mcQ q f).toNat (mvQ q f))).1 = true → f ∈ t) ∧ ∀ x : Int, 0 ≤ x → x < q.length → x ∉ t → gv.getD (mcQ q x).toNat false = false → (allowS (ps, bs) s (m.set (mcQ q x).toNat (mvQ q x))).1 = false
def O_rf4 : Unit × List Int × List V × Int × List Int × List Int × List Int × List Bool × Int × List Int × List (Int × (Int × (Int × V))) × Unit → Tree (Exit × St) := fun ((), s, q, f, m, t, sum, gv, i, ps, bs, ()) => (.leaf (.exit 4, L_rf4_1.st noU (m, sum, ())))
def R_rf4 : LRun := runOf 283 L_rf4 (fun x => x) (inv_rf4) (O_rf4)
theorem K_rf4 : LoopOk P [] 283 none noU C_rf4 (R_rf4) := by
  refine loop_of hm (cx := [c_Allowed.gc, c_AllowedX.gc, c_HasInt.gc, c_OwnIntsC.gc]) [] (xl := X_rf4) (α := Unit × List Int × List V × Int × List Int × List Int × List Int × List Bool × Int × List Int × List (Int × (Int × (Int × V))) × Unit) (fun x => x) (fun ((), s, q, f, m, t, sum, gv, i, ps, bs, ()) => ((q.length : Int) - i).toNat) (fun _ => rfl) (by kernel_rfl) (by kernel_rfl) ?_ (by kernel_rfl) trivial ?_
  · intro e S L' h
    unfold X_rf4 at h
    split at h <;> first | (cases h; done) | (cases h; kernel_rfl) | (rcases bif_some h with h | h <;> cases h <;> kernel_rfl)
  · rintro ⟨⟨⟩, s, q, f, m, t, sum, gv, i, ps, bs, ⟨⟩⟩ hinv Q hQ
    refine hold_of_eq (B_rf4 s q f m t sum gv i ps bs) ?_
    obtain ⟨h0, h1, h2, h3, h4, h5, h6, h7, h8, h9⟩ := hinv
    rw [W_id (n := i + 1) (by omega) (by omega)]
    simp only [Int.toNat_natCast]
    refine ⟨fun c1 => ?_, fun c1 => hQ⟩
    have d1 : i < q.length := of_decide_eq_true c1
    have r0 : 0 ≤ i ∧ i < (q.length : Int) := ⟨h0, d1⟩
    have b1 : i.toNat < q.length := by omega
    obtain ⟨x0, x1⟩ := (qOk_at h3 h0 d1).1
    change 0 ≤ (q.getD i.toNat (0, 0, 0)).1 at x0
    change (q.getD i.toNat (0, 0, 0)).1 < _ at x1
    have el : (List.replicate s.length (0 : Int)).length = s.length := List.length_replicate
    have nn : ∀ {l : List Int} {n : Int}, (!hasS l n) = true → n ∉ l := fun {l n} h hm => by rw [hasS_iff.2 hm] at h; cases h
    have kk : ∀ {b : Bool}, (!b) = true → b = false := fun {b} h => by cases b <;> simp_all
    have mm : ((q.length : Int) - (i + 1)).toNat < ((q.length : Int) - i).toNat := by omega
    refine ⟨⟨by omega, trivial, by omega, by omega⟩, r0, r0, ⟨x0, by rw [el]; exact x1⟩, by rw [el]; omega, by rw [List.length_set, el]; omega, fun c2 => ⟨fun c3 => ⟨by omega, fun c4 => ?_, fun c4 => ?_⟩, fun c3 => ?_⟩, fun c2 => ?_⟩
    · have e : i = f := by simpa using c2
      subst e
      exact absurd (h8 h0 d1 c3) (nn c4)
    all_goals
      exact ⟨by omega, r0, r0, ⟨x0, by omega⟩, by omega, by rw [List.length_set]; omega, by omega, fun k1 => ⟨r0, ⟨x0, by omega⟩, by omega, fun k2 => ⟨fun k3 => absurd (k3.symm.trans (h9 i h0 d1 (nn k1) (kk k2))) (by decide), fun k3 => ⟨⟨⟨by omega, by omega, h2, h3, h4, h5, h6, h7, h8, h9⟩, mm⟩, hQ⟩⟩, fun k2 => ⟨⟨⟨by omega, by omega, h2, h3, h4, h5, h6, h7, h8, h9⟩, mm⟩, hQ⟩⟩, fun k1 => ⟨⟨⟨by omega, by omega, h2, h3, h4, h5, h6, h7, h8, h9⟩, mm⟩, hQ⟩⟩
theorem rkS_app {q : List Req} {x : Req} {j : Int} (h0 : 0 ≤ j) (h : j < q.length) : rkS (q ++ [x]) j = rkS q j := by
  unfold rkS
  rw [List.getD_eq_getElem?_getD, List.getElem?_append_left (by omega), List.getD_eq_getElem?_getD]
theorem rkS_last {q : List Req} {x : Req} : rkS (q ++ [x]) (q.length : Int) = x.2.2 := by
  unfold rkS
  rw [Int.toNat_natCast, List.getD_eq_getElem?_getD, List.getElem?_append_right (Nat.le_refl _), Nat.sub_self]; rfl
def Fst (q : List Req) (f : Int) : Prop := (f = -1 ∧ q = []) ∨ (0 ≤ f ∧ f < q.length ∧ ∀ j : Int, 0 ≤ j → j < q.length → j ≠ f → lexR q f j)
theorem req5_ok {n : Nat} (hn : 0 < n) (y : Req) : (0 ≤ (req5 n y).1 ∧ (req5 n y).1 < n) ∧ ((req5 n y).2.1 = -1 ∨ (req5 n y).2.1 = 0 ∨ (req5 n y).2.1 = 1) ∧ 0 ≤ (req5 n y).2.2 ∧ (req5 n y).2.2 ≤ 99 := by
  unfold req5
  dsimp only
  rw [W_id (n := y.2.1 % 3 - 1) (by omega) (by omega)]
  have h1 := Int.emod_nonneg y.1 (show (n : Int) ≠ 0 by omega)
  have h2 := Int.emod_lt_of_pos y.1 (show (0 : Int) < n by omega)
  omega
theorem fsS_ok {n : Nat} (hn : 0 < n) : ∀ (l som : List Req) (f : Int), qOk n som → Fst som f → qOk n (fsS n l som f).1 ∧ (fsS n l som f).1.length = som.length + l.length ∧ Fst (fsS n l som f).1 (fsS n l som f).2
  | [], som, f, h1, h2 => ⟨h1, rfl, h2⟩
  | y :: l, som, f, h1, h2 => by
    rw [fsS]
    have hx := req5_ok hn y
    generalize req5 n y = x at *
    have q1 : qOk n (som ++ [x]) := fun z hz => by
      rcases List.mem_append.1 hz with h | h
      · exact h1 z h
      · rw [List.mem_singleton] at h; rw [h]; exact hx
    have ll : ((som ++ [x]).length : Int) = som.length + 1 := by rw [List.length_append, List.length_singleton]; omega
    have q2 : Fst (som ++ [x]) (if f < 0 ∨ x.2.2 < ((som ++ [x]).getD f.toNat zReq).2.2 then som.length else f) := by
      rcases h2 with ⟨rfl, rfl⟩ | ⟨h2, h3, h4⟩
      · rw [if_pos (.inl (by decide))]
        exact .inr ⟨by simp, by simp, fun j j0 j1 j2 => by simp at j1 j2; omega⟩
      · have e : ((som ++ [x]).getD f.toNat zReq).2.2 = rkS som f := rkS_app h2 h3
        rw [e]
        split
        · rename_i c
          have c : x.2.2 < rkS som f := by omega
          refine .inr ⟨by omega, by omega, fun j j0 j1 j2 => .inl ?_⟩
          rw [rkS_last, rkS_app j0 (by omega)]
          by_cases jf : j = f
          · rw [jf]; exact c
          · have := h4 j j0 (by omega) jf
            unfold lexR at this
            omega
        · rename_i c
          refine .inr ⟨h2, by omega, fun j j0 j1 j2 => ?_⟩
          unfold lexR
          rw [rkS_app h2 h3]
          by_cases js : j = som.length
          · rw [js, rkS_last]; omega
          · rw [rkS_app j0 (by omega)]
            exact h4 j j0 (by omega) j2
    obtain ⟨r1, r2, r3⟩ := fsS_ok hn l _ _ q1 q2
    refine ⟨r1, ?_, r3⟩
    rw [r2]; simp only [List.length_append, List.length_cons, List.length_nil]; omega
theorem T_RigFirst (s0 : List Int) (l : List V) (x1_ : Nat) (hx1_ : x1_ = (Int.toNat (↑(List.length (kPlc s0 (kRig s0 (0 : Int)) (kRigK s0 (0 : Int)))) : Int))) : fnTree (P := P) [c_NewRing.gc, c_RigOf.gc, c_Places.gc, c_State.gc, c_Merge.gc, c_Allowed.gc, c_awake.gc, c_SameIntsY.gc] (lpOf [(0, R_rf0), (2, R_rf2), (4, R_rf4)]) Try.f16 (encL 0 [.val tIs, .val tVs] (s0, l, ())) =
  Tree.need ((0 : Int) ≤ (0 : Int) ∧ (0 : Int) ≤ (500000000 : Int)) (Tree.need (KRig (kRig s0 (0 : Int)) ∧ (0 : Int) ≤ kRigK s0 (0 : Int) ∧ kRigK s0 (0 : Int) ≤ (500000000 : Int)) (Tree.cond (stateS (kRig s0 (0 : Int)) (kPlc s0 (kRig s0 (0 : Int)) (kRigK s0 (0 : Int))) != (0 : Int)) (Tree.leaf (SV.bool true)) (Tree.cond (decide ((↑(List.length l) : Int) > (8 : Int))) (Tree.leaf (SV.bool true)) (Tree.need (inv_rf0 (l, (), kPlc s0 (kRig s0 (0 : Int)) (kRigK s0 (0 : Int)), [], (-1 : Int), (0 : Int), (kRig s0 (0 : Int)).fst, (kRig s0 (0 : Int)).snd, ())) (Tree.need ((↑(List.length (fsS (↑(List.length (kPlc s0 (kRig s0 (0 : Int)) (kRigK s0 (0 : Int)))) : Int) (List.drop (Int.toNat (0 : Int)) l) [] (-1 : Int)).fst) : Int) < (2 : Int) ^ (62 : Nat)) (Tree.cond ((mrgS (kRig s0 (0 : Int)) (kPlc s0 (kRig s0 (0 : Int)) (kRigK s0 (0 : Int))) (fsS (↑(List.length (kPlc s0 (kRig s0 (0 : Int)) (kRigK s0 (0 : Int)))) : Int) (List.drop (Int.toNat (0 : Int)) l) [] (-1 : Int)).fst).snd.snd != (0 : Int)) (Tree.leaf (SV.bool false)) (Tree.cond ((↑(List.length (mrgS (kRig s0 (0 : Int)) (kPlc s0 (kRig s0 (0 : Int)) (kRigK s0 (0 : Int))) (fsS (↑(List.length (kPlc s0 (kRig s0 (0 : Int)) (kRigK s0 (0 : Int)))) : Int) (List.drop (Int.toNat (0 : Int)) l) [] (-1 : Int)).fst).fst) : Int) != (↑(List.length (kPlc s0 (kRig s0 (0 : Int)) (kRigK s0 (0 : Int)))) : Int)) (Tree.leaf (SV.bool false)) (Tree.need ((↑(List.length (mrgS (kRig s0 (0 : Int)) (kPlc s0 (kRig s0 (0 : Int)) (kRigK s0 (0 : Int))) (fsS (↑(List.length (kPlc s0 (kRig s0 (0 : Int)) (kRigK s0 (0 : Int)))) : Int) (List.drop (Int.toNat (0 : Int)) l) [] (-1 : Int)).fst).fst) : Int) < (2 : Int) ^ (62 : Nat)) (Tree.cond (!(allowS (kRig s0 (0 : Int)) (kPlc s0 (kRig s0 (0 : Int)) (kRigK s0 (0 : Int))) (mrgS (kRig s0 (0 : Int)) (kPlc s0 (kRig s0 (0 : Int)) (kRigK s0 (0 : Int))) (fsS (↑(List.length (kPlc s0 (kRig s0 (0 : Int)) (kRigK s0 (0 : Int)))) : Int) (List.drop (Int.toNat (0 : Int)) l) [] (-1 : Int)).fst).fst).fst) (Tree.leaf (SV.bool false)) (Tree.need ((0 : Int) ≤ (↑(List.length (kPlc s0 (kRig s0 (0 : Int)) (kRigK s0 (0 : Int)))) : Int) ∧ (↑(List.length (kPlc s0 (kRig s0 (0 : Int)) (kRigK s0 (0 : Int)))) : Int) = (↑(List.length (kPlc s0 (kRig s0 (0 : Int)) (kRigK s0 (0 : Int)))) : Int) ∧ (↑(List.length (kPlc s0 (kRig s0 (0 : Int)) (kRigK s0 (0 : Int)))) : Int) ≤ (70368744177664 : Int) ∧ (↑(8 : Nat) : Int) * (↑(List.length (kPlc s0 (kRig s0 (0 : Int)) (kRigK s0 (0 : Int)))) : Int) ≤ (140737488355328 : Int)) (Tree.need ((0 : Int) ≤ (↑(List.length (kPlc s0 (kRig s0 (0 : Int)) (kRigK s0 (0 : Int)))) : Int) ∧ (↑(List.length (kPlc s0 (kRig s0 (0 : Int)) (kRigK s0 (0 : Int)))) : Int) = (↑(List.length (kPlc s0 (kRig s0 (0 : Int)) (kRigK s0 (0 : Int)))) : Int) ∧ (↑(List.length (kPlc s0 (kRig s0 (0 : Int)) (kRigK s0 (0 : Int)))) : Int) ≤ (70368744177664 : Int) ∧ (↑(1 : Nat) : Int) * (↑(List.length (kPlc s0 (kRig s0 (0 : Int)) (kRigK s0 (0 : Int)))) : Int) ≤ (140737488355328 : Int)) (Tree.need (inv_rf2 ((), kPlc s0 (kRig s0 (0 : Int)) (kRigK s0 (0 : Int)), (fsS (↑(List.length (kPlc s0 (kRig s0 (0 : Int)) (kRigK s0 (0 : Int)))) : Int) (List.drop (Int.toNat (0 : Int)) l) [] (-1 : Int)).fst, (fsS (↑(List.length (kPlc s0 (kRig s0 (0 : Int)) (kRigK s0 (0 : Int)))) : Int) (List.drop (Int.toNat (0 : Int)) l) [] (-1 : Int)).snd, (mrgS (kRig s0 (0 : Int)) (kPlc s0 (kRig s0 (0 : Int)) (kRigK s0 (0 : Int))) (fsS (↑(List.length (kPlc s0 (kRig s0 (0 : Int)) (kRigK s0 (0 : Int)))) : Int) (List.drop (Int.toNat (0 : Int)) l) [] (-1 : Int)).fst).fst, (mrgS (kRig s0 (0 : Int)) (kPlc s0 (kRig s0 (0 : Int)) (kRigK s0 (0 : Int))) (fsS (↑(List.length (kPlc s0 (kRig s0 (0 : Int)) (kRigK s0 (0 : Int)))) : Int) (List.drop (Int.toNat (0 : Int)) l) [] (-1 : Int)).fst).snd.fst, List.replicate x1_ (0 : Int), List.replicate x1_ false, (0 : Int), (kRig s0 (0 : Int)).fst, (kRig s0 (0 : Int)).snd, ())) (Tree.need (inv_rf4 ((), kPlc s0 (kRig s0 (0 : Int)) (kRigK s0 (0 : Int)), (fsS (↑(List.length (kPlc s0 (kRig s0 (0 : Int)) (kRigK s0 (0 : Int)))) : Int) (List.drop (Int.toNat (0 : Int)) l) [] (-1 : Int)).fst, (fsS (↑(List.length (kPlc s0 (kRig s0 (0 : Int)) (kRigK s0 (0 : Int)))) : Int) (List.drop (Int.toNat (0 : Int)) l) [] (-1 : Int)).snd, (mrgS (kRig s0 (0 : Int)) (kPlc s0 (kRig s0 (0 : Int)) (kRigK s0 (0 : Int))) (fsS (↑(List.length (kPlc s0 (kRig s0 (0 : Int)) (kRigK s0 (0 : Int)))) : Int) (List.drop (Int.toNat (0 : Int)) l) [] (-1 : Int)).fst).fst, (mrgS (kRig s0 (0 : Int)) (kPlc s0 (kRig s0 (0 : Int)) (kRigK s0 (0 : Int))) (fsS (↑(List.length (kPlc s0 (kRig s0 (0 : Int)) (kRigK s0 (0 : Int)))) : Int) (List.drop (Int.toNat (0 : Int)) l) [] (-1 : Int)).fst).snd.fst, (sgS (fsS (↑(List.length (kPlc s0 (kRig s0 (0 : Int)) (kRigK s0 (0 : Int)))) : Int) (List.drop (Int.toNat (0 : Int)) l) [] (-1 : Int)).fst (List.drop (Int.toNat (0 : Int)) (mrgS (kRig s0 (0 : Int)) (kPlc s0 (kRig s0 (0 : Int)) (kRigK s0 (0 : Int))) (fsS (↑(List.length (kPlc s0 (kRig s0 (0 : Int)) (kRigK s0 (0 : Int)))) : Int) (List.drop (Int.toNat (0 : Int)) l) [] (-1 : Int)).fst).snd.fst) (List.replicate x1_ (0 : Int), List.replicate x1_ false)).fst, (sgS (fsS (↑(List.length (kPlc s0 (kRig s0 (0 : Int)) (kRigK s0 (0 : Int)))) : Int) (List.drop (Int.toNat (0 : Int)) l) [] (-1 : Int)).fst (List.drop (Int.toNat (0 : Int)) (mrgS (kRig s0 (0 : Int)) (kPlc s0 (kRig s0 (0 : Int)) (kRigK s0 (0 : Int))) (fsS (↑(List.length (kPlc s0 (kRig s0 (0 : Int)) (kRigK s0 (0 : Int)))) : Int) (List.drop (Int.toNat (0 : Int)) l) [] (-1 : Int)).fst).snd.fst) (List.replicate x1_ (0 : Int), List.replicate x1_ false)).snd, (0 : Int), (kRig s0 (0 : Int)).fst, (kRig s0 (0 : Int)).snd, ())) (Tree.need ((↑(List.length (sgS (fsS (↑(List.length (kPlc s0 (kRig s0 (0 : Int)) (kRigK s0 (0 : Int)))) : Int) (List.drop (Int.toNat (0 : Int)) l) [] (-1 : Int)).fst (List.drop (Int.toNat (0 : Int)) (mrgS (kRig s0 (0 : Int)) (kPlc s0 (kRig s0 (0 : Int)) (kRigK s0 (0 : Int))) (fsS (↑(List.length (kPlc s0 (kRig s0 (0 : Int)) (kRigK s0 (0 : Int)))) : Int) (List.drop (Int.toNat (0 : Int)) l) [] (-1 : Int)).fst).snd.fst) (List.replicate x1_ (0 : Int), List.replicate x1_ false)).fst) : Int) < (2 : Int) ^ (62 : Nat)) (Tree.cond (decide ((sgS (fsS (↑(List.length (kPlc s0 (kRig s0 (0 : Int)) (kRigK s0 (0 : Int)))) : Int) (List.drop (Int.toNat (0 : Int)) l) [] (-1 : Int)).fst (List.drop (Int.toNat (0 : Int)) (mrgS (kRig s0 (0 : Int)) (kPlc s0 (kRig s0 (0 : Int)) (kRigK s0 (0 : Int))) (fsS (↑(List.length (kPlc s0 (kRig s0 (0 : Int)) (kRigK s0 (0 : Int)))) : Int) (List.drop (Int.toNat (0 : Int)) l) [] (-1 : Int)).fst).snd.fst) (List.replicate x1_ (0 : Int), List.replicate x1_ false)).fst = (mrgS (kRig s0 (0 : Int)) (kPlc s0 (kRig s0 (0 : Int)) (kRigK s0 (0 : Int))) (fsS (↑(List.length (kPlc s0 (kRig s0 (0 : Int)) (kRigK s0 (0 : Int)))) : Int) (List.drop (Int.toNat (0 : Int)) l) [] (-1 : Int)).fst).fst)) (Tree.leaf (SV.bool true)) (Tree.leaf (SV.bool false))))))))))))))))) := by
  subst hx1_; kernel_rfl
def c_RigFirst : PC P := PC.of (α := List Int × List V × Unit) 16 [.val tIs, .val tVs] (fun x => x) (fun x => x) (fun _ => rfl)
  (fun _ => none)
  (fun x => .bool true) (by kernel_rfl) (by
    rintro ⟨s0, l, ⟨⟩⟩ hp
    refine fn_of hm (by kernel_rfl) (by kernel_rfl) (T_RigFirst s0 l _ rfl) ⟨K_rf0, K_rf2, K_rf4, trivial⟩ ?_
    try dsimp only at hp
    try dsimp only
    obtain ⟨hk, hk1, hk2⟩ := kRig_ok (l := s0) (k := 0) (by decide)
    have l3 := hk.l3
    have l2 := hk.l2
    obtain ⟨v, v1, v2⟩ := kPlc_ok (l := s0) hk hk1
    refine ⟨⟨by decide, by decide⟩, ⟨hk, hk1, by omega⟩, fun c1 => rfl, fun c1 => ⟨fun c2 => rfl, fun c2 => ?_⟩⟩
    have d1 : stateS (kRig s0 0) (kPlc s0 (kRig s0 0) (kRigK s0 0)) = 0 := by simpa using c1
    have d2 := of_decide_eq_false c2
    rw [Sf.state.state_of' hk.ck v] at d1
    have hsafe : safeS (kRig s0 0).1 (kRig s0 0).2 (kPlc s0 (kRig s0 0) (kRigK s0 0)) = true := by
      cases c : safeS (kRig s0 0).1 (kRig s0 0).2 (kPlc s0 (kRig s0 0) (kRigK s0 0)) with
      | true => rfl
      | false => rw [c, if_neg (by simp)] at d1; cases d1
    have hs : Sf (kRig s0 0) (kPlc s0 (kRig s0 0) (kRigK s0 0)) := ⟨hk.ck, v, hsafe⟩
    have sl := v.sl
    clear v v1 v2 hsafe d1 c1 c2
    generalize kPlc s0 (kRig s0 0) (kRigK s0 0) = s at *
    generalize kRig s0 0 = r at *
    simp only [show Int.toNat 0 = 0 from rfl, List.drop_zero, Int.toNat_natCast]
    obtain ⟨hq, hl, hf⟩ := fsS_ok (n := s.length) (by omega) l [] (-1) (fun x hx => (by cases hx)) (.inl ⟨rfl, rfl⟩)
    rw [List.length_nil] at hl
    generalize fsS (s.length : Int) l [] (-1) = F at *
    obtain ⟨q, f⟩ := F
    dsimp only at hq hl hf ⊢
    obtain ⟨m, T, e, h⟩ := first_law hs hq (by omega)
    have tl := h.tl
    have lm := h.lm
    rw [e]
    dsimp only
    have el : (List.replicate s.length (0 : Int)).length = s.length := List.length_replicate
    have eg : (List.replicate s.length false).length = s.length := List.length_replicate
    have es : (sgS q T (List.replicate s.length 0, List.replicate s.length false)).2.length = s.length := by
      have := (sgS_at (q := q) 0 T (List.replicate s.length 0) (List.replicate s.length false) (fun i hi => by
        have := qOk_at hq (h.rg i hi).1 (h.rg i hi).2
        rw [el, eg]; omega)).2.1
      rw [this, eg]
    rw [h.sg]
    have i2 : inv_rf2 ((), s, q, f, m, T, List.replicate s.length 0, List.replicate s.length false, 0, r.1, r.2, ()) :=
      ⟨by decide, by omega, tl, h.st, h.rg, by omega, hq, el, eg, h.ds, fun x hx => rep_get _ _ _⟩
    have i4 : inv_rf4 ((), s, q, f, m, T, m, (sgS q T (List.replicate s.length 0, List.replicate s.length false)).2, 0, r.1, r.2, ()) := by
      refine ⟨by decide, by omega, by omega, hq, es, lm, by omega, tl, fun f0 f1 ha => ?_, h.rf⟩
      rcases hf with ⟨rfl, _⟩ | ⟨_, _, hf⟩
      · omega
      · exact h.fr f f0 f1 hf ha
    refine ⟨⟨rfl, by omega, by omega, by omega, by omega, by decide, .inl (by decide)⟩, by omega, fun c => by simp at c, fun _ => ⟨fun c => by simp [lm] at c, fun _ => ⟨by omega, fun c => by rw [h.al] at c; simp at c, fun _ => ⟨⟨by omega, trivial, by omega, by omega⟩, ⟨by omega, trivial, by omega, by omega⟩, i2, i4, by omega, fun _ => rfl, fun c => ?_⟩⟩⟩⟩
    simp at c)
end
end Go.MR
