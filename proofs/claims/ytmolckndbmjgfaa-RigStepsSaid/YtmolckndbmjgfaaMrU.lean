/- Rigs: all allowed moves. -/
import Derived.Test.YtmolckndbmjgfaaMrQ
import Derived.Test.YtmolckndbmjgfaaMrO
namespace Go.MR
open Go Go.Sx Go.Proofs
set_option linter.unusedVariables false
set_option linter.unusedSimpArgs false
noncomputable section

/-- The ones of a list that hold, added to some. -/
def accM (p : List Int → Bool) (acc l : List (List Int)) : List (List Int) := acc ++ l.filter p
theorem accM_nil (p : List Int → Bool) (acc : List (List Int)) : accM p acc [] = acc := by unfold accM; rw [List.filter_nil, List.append_nil]
theorem accM_yes {p : List Int → Bool} {acc l : List (List Int)} {m : List Int} (h : p m = true) : accM p acc (m :: l) = accM p (acc ++ [m]) l := by
  unfold accM; rw [List.filter_cons_of_pos h, List.append_cons]
theorem accM_no {p : List Int → Bool} {acc l : List (List Int)} {m : List Int} (h : p m = false) : accM p acc (m :: l) = accM p acc l := by
  unfold accM; rw [List.filter_cons_of_neg (by rw [h]; decide)]
theorem allM_card : ∀ n : Nat, (allM n).length = 3 ^ n
  | 0 => rfl
  | n + 1 => by
    rw [allM, List.length_append, List.length_append, List.length_map, List.length_map, List.length_map, allM_card n, Nat.pow_succ]
    omega

def L_mvs : Lay := { slots := [(5, .ptr 6021 0), (13, .clo 119 [(14021, 0), (14022, 0)])], boxes := [(6021, [.row 22 tIs]), (14021, [.val tIs]), (14022, [.val tIs, .val (.sl tBan)])] }
def L_mvs_0 : Lay := { slots := [(5, .ptr 6021 0)], boxes := [(6021, [.row 22 tIs])] }
def X_mvs : Exit → St → Option Lay
  | .normal, _ => some L_mvs_0
  | _, _ => none
abbrev C_mvs : Code := loopC (bodyOf Try.f40) 0
abbrev A_mvs : Type := Unit × Unit × List (List Int) × List Int × List Int × List Ban × Unit
abbrev Y_mvs (a : A_mvs) : List YH := [⟨990, roundRun (P := P) [c_clone.gc, c_all.gc] [] 21 990 (L_mvs.st noU a).tmps (rgPs C_mvs).toList (rgAssign C_mvs) (rgBody C_mvs)⟩]
abbrev U_mvs (a : A_mvs) : Nat → Bool := apU (L_mvs.st noU a).used [990]

def L_allwM : Lay := { slots := [(1, .ptr 14021 0), (2, .ptr 14022 0), (3, .ptr 4031 0), (9, .clo 143 [(10031, 0)])], boxes := [(6021, [.row 22 tIs]), (14021, [.val tIs]), (14022, [.val tIs, .val (.sl tBan)]), (4031, [.yld 990]), (10031, [.val tI])], recs := [(990, .ready)] }
def L_allwM_0 : Lay := { slots := [], boxes := [(6021, [.row 22 tIs])], recs := [(990, .ready)] }
def X_allwM : Exit → St → Option Lay
  | .normal, _ => some L_allwM_0
  | _, _ => none
abbrev C_allwM : Code := loopC (bodyOf Try.f119) 0
abbrev A_allwM : Type := Unit × Unit × Unit × Unit × List (List Int) × List Int × List Int × List Ban × Unit × Int × Unit
abbrev Y_allwM (q : A_mvs) (a : A_allwM) : List YH := [⟨991, roundRun (P := P) [c_ways.gc, c_bans.gc] (Y_mvs q) 31 991 (L_allwM.st (U_mvs q) a).tmps (rgPs C_allwM).toList (rgAssign C_allwM) (rgBody C_allwM)⟩]
abbrev U_allwM (q : A_mvs) (a : A_allwM) : Nat → Bool := apU (L_allwM.st (U_mvs q) a).used [991]

def L_all0M : Lay := { slots := [(0, .yld 991), (1, .ptr 10031 0), (3, .row 3 tI), (9, .val tI), (10, .val tI)], boxes := [(6021, [.row 22 tIs]), (14021, [.val tIs]), (14022, [.val tIs, .val (.sl tBan)]), (4031, [.yld 990]), (10031, [.val tI])], recs := [(990, .ready), (991, .ready)], rb := 2000000 }
def L_all0M_0 : Lay := { slots := [(0, .yld 991), (1, .ptr 10031 0), (3, .row 3 tI)], boxes := [(6021, [.row 22 tIs]), (14021, [.val tIs]), (14022, [.val tIs, .val (.sl tBan)]), (4031, [.yld 990]), (10031, [.val tI])], recs := [(990, .ready), (991, .ready)], rb := 2000000 }
def X_all0M : Exit → St → Option Lay
  | .exit 0, _ => some L_all0M_0
  | _, _ => none
abbrev C_all0M : Code := loopC (bodyOf Try.f143) 0
theorem B_all0M (q : A_mvs) (p : A_allwM) (m : List Int) (n i : Int) (acc : List (List Int)) (s ps : List Int) (bs : List Ban) (mc : Int) : loopBodyA (P := P) [] (lpOf []) (Y_allwM q p) 45 (U_allwM q p) (inner C_all0M) L_all0M X_all0M (α := Unit × Unit × List Int × Int × Int × List (List Int) × List Int × List Int × List Ban × Unit × Int × Unit) (fun x => x) (fun x => x) ((), (), m, n, i, acc, s, ps, bs, (), mc, ()) =
  Tree.cond (decide (i < n)) (Tree.need ((0 : Int) ≤ i ∧ i < (↑(List.length m) : Int)) (Tree.need (Int.toNat i < List.length m) (Tree.leaf (Sum.inl (PUnit.unit, PUnit.unit, List.set m (Int.toNat i) (-1 : Int), n, IntKind.wrap IntKind.i64 (i + (1 : Int)), acc, s, ps, bs, PUnit.unit, mc, PUnit.unit))))) (Tree.leaf (Sum.inr (Exit.exit (0 : Nat), Lay.st L_all0M_0 (U_allwM q p) (PUnit.unit, PUnit.unit, m, acc, s, ps, bs, PUnit.unit, mc, PUnit.unit)))) := by kernel_rfl

def inv_all0M (q : A_mvs) (p : A_allwM) : Unit × Unit × List Int × Int × Int × List (List Int) × List Int × List Int × List Ban × Unit × Int × Unit → Prop := fun (_, _, m, n, i, _) => n = m.length ∧ 0 ≤ i ∧ i ≤ n ∧ (m.length : Int) ≤ 1000
def O_all0M (q : A_mvs) (p : A_allwM) : Unit × Unit × List Int × Int × Int × List (List Int) × List Int × List Int × List Ban × Unit × Int × Unit → Tree (Exit × St) := fun (_, _, m, n, i, r) => .leaf (.exit 0, L_all0M_0.st (U_allwM q p) ((), (), fillS m i, r))
def R_all0M (q : A_mvs) (p : A_allwM) : LRun := runOf 45 L_all0M (fun x => x) (inv_all0M q p) (O_all0M q p)
theorem K_all0M (q : A_mvs) (p : A_allwM) : LoopOk P (Y_allwM q p) 45 none (U_allwM q p) C_all0M (R_all0M q p) := by
  refine loop_of hm (cx := []) [] (xl := X_all0M) (α := Unit × Unit × List Int × Int × Int × List (List Int) × List Int × List Int × List Ban × Unit × Int × Unit) (fun x => x) (fun (_, _, m, n, i, _) => (n - i).toNat) (fun _ => rfl) (by kernel_rfl) (by kernel_rfl) ?_ (by kernel_rfl) trivial ?_
  · intro e S L' h
    unfold X_all0M at h
    split at h <;> first | (cases h; done) | (cases h; kernel_rfl) | (rcases bif_some h with h | h <;> cases h <;> kernel_rfl)
  · rintro ⟨⟨⟩, ⟨⟩, m, n, i, acc, s, ps, bs, ⟨⟩, mc, ⟨⟩⟩ hinv Q hQ
    refine hold_of_eq (B_all0M q p m n i acc s ps bs mc) ?_

    obtain ⟨rfl, h0, h1, h2⟩ := hinv
    rw [W_id (n := i + 1) (by omega) (by omega)]
    unfold O_all0M at hQ
    dsimp only at hQ
    refine ⟨fun c1 => ?_, fun c1 => ?_⟩
    · have d1 := of_decide_eq_true c1
      have hm : ((m.length : Int) - (i + 1)).toNat < ((m.length : Int) - i).toNat := by omega
      refine ⟨⟨h0, d1⟩, by omega, ⟨⟨by rw [List.length_set], by omega, by omega, by rw [List.length_set]; exact h2⟩, hm⟩, ?_⟩
      rw [← fill_step h0 d1] at hQ
      exact hQ
    · have d1 := of_decide_eq_false c1
      rw [fill_end d1] at hQ
      exact hQ

def L_all4M : Lay := { slots := [(0, .yld 991), (1, .ptr 10031 0), (3, .row 3 tI), (5, .val tI)], boxes := [(6021, [.row 22 tIs]), (14021, [.val tIs]), (14022, [.val tIs, .val (.sl tBan)]), (4031, [.yld 990]), (10031, [.val tI])], recs := [(990, .ready), (991, .ready)], rb := 2000000 }
def L_all4M_0 : Lay := { slots := [(0, .yld 991), (1, .ptr 10031 0), (3, .row 3 tI), (5, .val tI)], boxes := [(6021, [.row 22 tIs]), (14021, [.val tIs]), (14022, [.val tIs, .val (.sl tBan)]), (4031, [.yld 990]), (10031, [.val tI])], recs := [(990, .ready), (991, .ready)], rb := 2000000 }
def X_all4M : Exit → St → Option Lay
  | .exit 4, _ => some L_all4M_0
  | _, _ => none
abbrev C_all4M : Code := loopC (inner (loopC (bodyOf Try.f143) 2)) 4
theorem B_all4M (q : A_mvs) (p : A_allwM) (m : List Int) (k : Int) (acc : List (List Int)) (s ps : List Int) (bs : List Ban) (mc : Int) : loopBodyA (P := P) [] (lpOf []) (Y_allwM q p) 45 (U_allwM q p) (inner C_all4M) L_all4M X_all4M (α := Unit × Unit × List Int × Int × List (List Int) × List Int × List Int × List Ban × Unit × Int × Unit) (fun x => x) (fun x => x) ((), (), m, k, acc, s, ps, bs, (), mc, ()) =
  Tree.cond (decide (k ≥ (0 : Int))) (Tree.need ((0 : Int) ≤ k ∧ k < (↑(List.length m) : Int)) (Tree.need (Int.toNat k < List.length m) (Tree.cond (List.getD m (Int.toNat k) (0 : Int) == (1 : Int)) (Tree.need ((0 : Int) ≤ k ∧ k < (↑(List.length m) : Int)) (Tree.need (Int.toNat k < List.length m) (Tree.leaf (Sum.inl (PUnit.unit, PUnit.unit, List.set m (Int.toNat k) (-1 : Int), IntKind.wrap IntKind.i64 (k - (1 : Int)), acc, s, ps, bs, PUnit.unit, mc, PUnit.unit))))) (Tree.leaf (Sum.inr (Exit.exit (4 : Nat), Lay.st L_all4M_0 (U_allwM q p) (PUnit.unit, PUnit.unit, m, k, acc, s, ps, bs, PUnit.unit, mc, PUnit.unit))))))) (Tree.leaf (Sum.inr (Exit.exit (4 : Nat), Lay.st L_all4M_0 (U_allwM q p) (PUnit.unit, PUnit.unit, m, k, acc, s, ps, bs, PUnit.unit, mc, PUnit.unit)))) := by kernel_rfl

def inv_all4M (q : A_mvs) (p : A_allwM) : Unit × Unit × List Int × Int × List (List Int) × List Int × List Int × List Ban × Unit × Int × Unit → Prop := fun (_, _, m, k, _) => -1 ≤ k ∧ k < m.length ∧ (m.length : Int) ≤ 1000
def O_all4M (q : A_mvs) (p : A_allwM) : Unit × Unit × List Int × Int × List (List Int) × List Int × List Int × List Ban × Unit × Int × Unit → Tree (Exit × St) := fun (_, _, m, k, r) => .leaf (.exit 4, L_all4M_0.st (U_allwM q p) ((), (), (cryS m (k + 1).toNat).1, (cryS m (k + 1).toNat).2, r))
def R_all4M (q : A_mvs) (p : A_allwM) : LRun := runOf 45 L_all4M (fun x => x) (inv_all4M q p) (O_all4M q p)
theorem K_all4M (q : A_mvs) (p : A_allwM) : LoopOk P (Y_allwM q p) 45 none (U_allwM q p) C_all4M (R_all4M q p) := by
  refine loop_of hm (cx := []) [] (xl := X_all4M) (α := Unit × Unit × List Int × Int × List (List Int) × List Int × List Int × List Ban × Unit × Int × Unit) (fun x => x) (fun (_, _, m, k, _) => (k + 1).toNat) (fun _ => rfl) (by kernel_rfl) (by kernel_rfl) ?_ (by kernel_rfl) trivial ?_
  · intro e S L' h
    unfold X_all4M at h
    split at h <;> first | (cases h; done) | (cases h; kernel_rfl) | (rcases bif_some h with h | h <;> cases h <;> kernel_rfl)
  · rintro ⟨⟨⟩, ⟨⟩, m, k, acc, s, ps, bs, ⟨⟩, mc, ⟨⟩⟩ hinv Q hQ
    refine hold_of_eq (B_all4M q p m k acc s ps bs mc) ?_

    obtain ⟨h0, h1, h2⟩ := hinv
    rw [W_id (n := k - 1) (by omega) (by omega)]
    unfold O_all4M at hQ
    dsimp only at hQ
    refine ⟨fun c1 => ?_, fun c1 => ?_⟩
    · have d1 : 0 ≤ k := of_decide_eq_true c1
      have hm : (k - 1 + 1).toNat < (k + 1).toNat := by omega
      have e := cryS_step (m := m) d1
      refine ⟨⟨d1, h1⟩, by omega, fun c2 => ⟨⟨d1, h1⟩, by omega, ⟨⟨by omega, by rw [List.length_set]; omega, by rw [List.length_set]; exact h2⟩, hm⟩, ?_⟩, fun c2 => ?_⟩
      · rw [e, if_pos (by simpa using c2)] at hQ
        unfold O_all4M
        dsimp only
        rw [show k - 1 + 1 = k by omega]
        exact hQ
      · rw [e, if_neg (by simpa using c2)] at hQ
        exact hQ
    · have d1 : k < 0 := by have : ¬ k ≥ 0 := of_decide_eq_false c1; omega
      have e : k = -1 := by omega
      subst e
      exact hQ

def L_all2M : Lay := { slots := [(0, .yld 991), (1, .ptr 10031 0), (3, .row 3 tI)], boxes := [(6021, [.row 22 tIs]), (14021, [.val tIs]), (14022, [.val tIs, .val (.sl tBan)]), (4031, [.yld 990]), (10031, [.val tI])], recs := [(990, .ready), (991, .ready)], rb := 2000000 }
def L_all2M_0 : Lay := { slots := [], boxes := [(6021, [.row 22 tIs])], recs := [(990, .ready), (991, .ready)], rb := 2000000 }
def X_all2M : Exit → St → Option Lay
  | .ret, _ => some L_all2M_0
  | _, _ => none
abbrev C_all2M : Code := loopC (bodyOf Try.f143) 2
theorem B_all2M (q : A_mvs) (p : A_allwM) (m : List Int) (acc : List (List Int)) (s ps : List Int) (bs : List Ban) (mc : Int) : loopBodyA (P := P) [c_clone.gc, c_ways.gc, c_bans.gc] (lpOf [(4, R_all4M q p)]) (Y_allwM q p) 45 (U_allwM q p) (inner C_all2M) L_all2M X_all2M (α := Unit × Unit × List Int × List (List Int) × List Int × List Int × List Ban × Unit × Int × Unit) (fun x => x) (fun x => x) ((), (), m, acc, s, ps, bs, (), mc, ()) =
  Tree.need (List.length s ≤ (1000 : Nat) ∧ List.length s ≤ List.length m ∧ List.length s ≤ List.length ps)
  (Tree.cond (waysS s m ps).snd
    (Tree.need ((↑(List.length bs) : Int) < (2 : Int) ^ (62 : Nat) ∧ ∀ (b : Ban), b ∈ bs → okB (List.length (waysS s m ps).fst) b) (Tree.cond (decide (ixS (banS (waysS s m ps).fst) bs < (0 : Int))) (Tree.need (m ≠ [] ∧ List.length m ≤ (1000 : Nat)) (Tree.need ((List.length acc + List.length [m]) * (24 : Nat) ≤ (140737488355328 : Nat)) (Tree.need (inv_all4M q p ((), (), m, IntKind.wrap IntKind.i64 (mc - (1 : Int)), acc ++ [m], s, ps, bs, (), mc, ())) (Tree.cond (decide ((cryS m (Int.toNat (IntKind.wrap IntKind.i64 (mc - (1 : Int)) + (1 : Int)))).snd < (0 : Int))) (Tree.leaf (Sum.inr (Exit.ret, Lay.st L_all2M_0 (U_allwM q p) (acc ++ [m], PUnit.unit)))) (Tree.need ((0 : Int) ≤ (cryS m (Int.toNat (IntKind.wrap IntKind.i64 (mc - (1 : Int)) + (1 : Int)))).snd ∧ (cryS m (Int.toNat (IntKind.wrap IntKind.i64 (mc - (1 : Int)) + (1 : Int)))).snd < (↑(List.length (cryS m (Int.toNat (IntKind.wrap IntKind.i64 (mc - (1 : Int)) + (1 : Int)))).fst) : Int)) (Tree.need (Int.toNat (cryS m (Int.toNat (IntKind.wrap IntKind.i64 (mc - (1 : Int)) + (1 : Int)))).snd < List.length (cryS m (Int.toNat (IntKind.wrap IntKind.i64 (mc - (1 : Int)) + (1 : Int)))).fst) (Tree.need ((0 : Int) ≤ (cryS m (Int.toNat (IntKind.wrap IntKind.i64 (mc - (1 : Int)) + (1 : Int)))).snd ∧ (cryS m (Int.toNat (IntKind.wrap IntKind.i64 (mc - (1 : Int)) + (1 : Int)))).snd < (↑(List.length (cryS m (Int.toNat (IntKind.wrap IntKind.i64 (mc - (1 : Int)) + (1 : Int)))).fst) : Int)) (Tree.need (Int.toNat (cryS m (Int.toNat (IntKind.wrap IntKind.i64 (mc - (1 : Int)) + (1 : Int)))).snd < List.length (cryS m (Int.toNat (IntKind.wrap IntKind.i64 (mc - (1 : Int)) + (1 : Int)))).fst) (Tree.leaf (Sum.inl (PUnit.unit, PUnit.unit, List.set (cryS m (Int.toNat (IntKind.wrap IntKind.i64 (mc - (1 : Int)) + (1 : Int)))).fst (Int.toNat (cryS m (Int.toNat (IntKind.wrap IntKind.i64 (mc - (1 : Int)) + (1 : Int)))).snd) (IntKind.wrap IntKind.i64 (List.getD (cryS m (Int.toNat (IntKind.wrap IntKind.i64 (mc - (1 : Int)) + (1 : Int)))).fst (Int.toNat (cryS m (Int.toNat (IntKind.wrap IntKind.i64 (mc - (1 : Int)) + (1 : Int)))).snd) (0 : Int) + (1 : Int))), acc ++ [m], s, ps, bs, PUnit.unit, mc, PUnit.unit))))))))))) (Tree.need (inv_all4M q p ((), (), m, IntKind.wrap IntKind.i64 (mc - (1 : Int)), acc, s, ps, bs, (), mc, ())) (Tree.cond (decide ((cryS m (Int.toNat (IntKind.wrap IntKind.i64 (mc - (1 : Int)) + (1 : Int)))).snd < (0 : Int))) (Tree.leaf (Sum.inr (Exit.ret, Lay.st L_all2M_0 (U_allwM q p) (acc, PUnit.unit)))) (Tree.need ((0 : Int) ≤ (cryS m (Int.toNat (IntKind.wrap IntKind.i64 (mc - (1 : Int)) + (1 : Int)))).snd ∧ (cryS m (Int.toNat (IntKind.wrap IntKind.i64 (mc - (1 : Int)) + (1 : Int)))).snd < (↑(List.length (cryS m (Int.toNat (IntKind.wrap IntKind.i64 (mc - (1 : Int)) + (1 : Int)))).fst) : Int)) (Tree.need (Int.toNat (cryS m (Int.toNat (IntKind.wrap IntKind.i64 (mc - (1 : Int)) + (1 : Int)))).snd < List.length (cryS m (Int.toNat (IntKind.wrap IntKind.i64 (mc - (1 : Int)) + (1 : Int)))).fst) (Tree.need ((0 : Int) ≤ (cryS m (Int.toNat (IntKind.wrap IntKind.i64 (mc - (1 : Int)) + (1 : Int)))).snd ∧ (cryS m (Int.toNat (IntKind.wrap IntKind.i64 (mc - (1 : Int)) + (1 : Int)))).snd < (↑(List.length (cryS m (Int.toNat (IntKind.wrap IntKind.i64 (mc - (1 : Int)) + (1 : Int)))).fst) : Int)) (Tree.need (Int.toNat (cryS m (Int.toNat (IntKind.wrap IntKind.i64 (mc - (1 : Int)) + (1 : Int)))).snd < List.length (cryS m (Int.toNat (IntKind.wrap IntKind.i64 (mc - (1 : Int)) + (1 : Int)))).fst) (Tree.leaf (Sum.inl (PUnit.unit, PUnit.unit, List.set (cryS m (Int.toNat (IntKind.wrap IntKind.i64 (mc - (1 : Int)) + (1 : Int)))).fst (Int.toNat (cryS m (Int.toNat (IntKind.wrap IntKind.i64 (mc - (1 : Int)) + (1 : Int)))).snd) (IntKind.wrap IntKind.i64 (List.getD (cryS m (Int.toNat (IntKind.wrap IntKind.i64 (mc - (1 : Int)) + (1 : Int)))).fst (Int.toNat (cryS m (Int.toNat (IntKind.wrap IntKind.i64 (mc - (1 : Int)) + (1 : Int)))).snd) (0 : Int) + (1 : Int))), acc, s, ps, bs, PUnit.unit, mc, PUnit.unit)))))))))))
    (Tree.need (inv_all4M q p ((), (), m, IntKind.wrap IntKind.i64 (mc - (1 : Int)), acc, s, ps, bs, (), mc, ())) (Tree.cond (decide ((cryS m (Int.toNat (IntKind.wrap IntKind.i64 (mc - (1 : Int)) + (1 : Int)))).snd < (0 : Int))) (Tree.leaf (Sum.inr (Exit.ret, Lay.st L_all2M_0 (U_allwM q p) (acc, PUnit.unit)))) (Tree.need ((0 : Int) ≤ (cryS m (Int.toNat (IntKind.wrap IntKind.i64 (mc - (1 : Int)) + (1 : Int)))).snd ∧ (cryS m (Int.toNat (IntKind.wrap IntKind.i64 (mc - (1 : Int)) + (1 : Int)))).snd < (↑(List.length (cryS m (Int.toNat (IntKind.wrap IntKind.i64 (mc - (1 : Int)) + (1 : Int)))).fst) : Int)) (Tree.need (Int.toNat (cryS m (Int.toNat (IntKind.wrap IntKind.i64 (mc - (1 : Int)) + (1 : Int)))).snd < List.length (cryS m (Int.toNat (IntKind.wrap IntKind.i64 (mc - (1 : Int)) + (1 : Int)))).fst) (Tree.need ((0 : Int) ≤ (cryS m (Int.toNat (IntKind.wrap IntKind.i64 (mc - (1 : Int)) + (1 : Int)))).snd ∧ (cryS m (Int.toNat (IntKind.wrap IntKind.i64 (mc - (1 : Int)) + (1 : Int)))).snd < (↑(List.length (cryS m (Int.toNat (IntKind.wrap IntKind.i64 (mc - (1 : Int)) + (1 : Int)))).fst) : Int)) (Tree.need (Int.toNat (cryS m (Int.toNat (IntKind.wrap IntKind.i64 (mc - (1 : Int)) + (1 : Int)))).snd < List.length (cryS m (Int.toNat (IntKind.wrap IntKind.i64 (mc - (1 : Int)) + (1 : Int)))).fst) (Tree.leaf (Sum.inl (PUnit.unit, PUnit.unit, List.set (cryS m (Int.toNat (IntKind.wrap IntKind.i64 (mc - (1 : Int)) + (1 : Int)))).fst (Int.toNat (cryS m (Int.toNat (IntKind.wrap IntKind.i64 (mc - (1 : Int)) + (1 : Int)))).snd) (IntKind.wrap IntKind.i64 (List.getD (cryS m (Int.toNat (IntKind.wrap IntKind.i64 (mc - (1 : Int)) + (1 : Int)))).fst (Int.toNat (cryS m (Int.toNat (IntKind.wrap IntKind.i64 (mc - (1 : Int)) + (1 : Int)))).snd) (0 : Int) + (1 : Int))), acc, s, ps, bs, PUnit.unit, mc, PUnit.unit)))))))))) := by kernel_rfl

def inv_all2M (q : A_mvs) (p : A_allwM) : Unit × Unit × List Int × List (List Int) × List Int × List Int × List Ban × Unit × Int × Unit → Prop := fun (_, _, m, acc, s, ps, bs, _, mc, _) => isM m ∧ m.length = ps.length ∧ StOk ps bs s ∧ mc = ps.length ∧ acc.length + (restM m).length ≤ 1000
def O_all2M (q : A_mvs) (p : A_allwM) : Unit × Unit × List Int × List (List Int) × List Int × List Int × List Ban × Unit × Int × Unit → Tree (Exit × St) := fun (_, _, m, acc, s, ps, bs, _) => .leaf (.ret, L_all2M_0.st (U_allwM q p) (accM (okM ps bs s) acc (restM m), ()))
def R_all2M (q : A_mvs) (p : A_allwM) : LRun := runOf 45 L_all2M (fun x => x) (inv_all2M q p) (O_all2M q p)
theorem K_all2M (q : A_mvs) (p : A_allwM) : LoopOk P (Y_allwM q p) 45 none (U_allwM q p) C_all2M (R_all2M q p) := by
  refine loop_of hm (cx := [c_clone.gc, c_ways.gc, c_bans.gc]) [(4, R_all4M q p)] (xl := X_all2M) (α := Unit × Unit × List Int × List (List Int) × List Int × List Int × List Ban × Unit × Int × Unit) (fun x => x) (fun (_, _, m, _) => (restM m).length) (fun _ => rfl) (by kernel_rfl) (by kernel_rfl) ?_ (by kernel_rfl) ⟨K_all4M q p, trivial⟩ ?_
  · intro e S L' h
    unfold X_all2M at h
    split at h <;> first | (cases h; done) | (cases h; kernel_rfl) | (rcases bif_some h with h | h <;> cases h <;> kernel_rfl)
  · rintro ⟨⟨⟩, ⟨⟩, m, acc, s, ps, bs, ⟨⟩, mc, ⟨⟩⟩ hinv Q hQ
    refine hold_of_eq (B_all2M q p m acc s ps bs mc) ?_

    obtain ⟨hM, hl, hk, rfl, hacc⟩ := hinv
    have l2 := hk.l2
    have l4 := hk.l4
    have sl := hk.sl
    have bl := hk.bl
    unfold O_all2M at hQ
    dsimp only at hQ
    rw [W_id (n := (ps.length : Int) - 1) (by omega) (by omega), show ((ps.length : Int) - 1 + 1).toNat = m.length by omega]
    have er := restM_step hM
    have hn := cryS_nxt hM
    have hlen1 : 1 ≤ (restM m).length := by rw [er, List.length_cons]; omega
    refine ⟨⟨by omega, by omega, by omega⟩, fun c1 => ⟨⟨by omega, ?_⟩, fun c2 => ⟨⟨fun e => by rw [e] at hl; simp at hl; omega, by omega⟩, ?_, ?_⟩, fun c2 => ?_⟩, fun c1 => ?_⟩
    · intro b hb
      rw [waysS_len c1 (by omega), sl]
      exact hk.bk b hb
    · show (acc.length + 1) * 24 ≤ 140737488355328
      omega
    · have ht : okM ps bs s m = true := by
        unfold okM
        rw [show (waysS s m ps).2 = true from c1, show decide (ixS (banS (waysS s m ps).1) bs < 0) = true from c2]
        rfl
      have hc := cryS_rng m.length m
      have hcl := cryS_len m.length m
      have hci := cryS_is m.length hM
      generalize cryS m m.length = z at *
      have hz := getD_is hci z.2.toNat
      refine ⟨⟨by omega, by omega, by omega⟩, fun c4 => ?_, fun c4 => ?_⟩
      · have d4 : z.2 < 0 := of_decide_eq_true c4
        cases hx : nxtM m with
        | none =>
          rw [hx] at er
          rw [er, accM_yes ht, accM_nil] at hQ
          exact hQ
        | some m' =>
          rw [hx] at hn
          exact absurd hn.1 (by omega)
      · have d4 : ¬ z.2 < 0 := of_decide_eq_false c4
        have hb : 0 ≤ z.2 ∧ z.2 < (z.1.length : Int) := by omega
        have hb2 : z.2.toNat < z.1.length := by omega
        refine ⟨hb, hb2, hb, hb2, ?_⟩
        cases hx : nxtM m with
        | none =>
          rw [hx] at hn
          exact absurd hn.1 (by omega)
        | some m' =>
          rw [hx] at hn er
          dsimp only at hn er
          rw [W_id (n := z.1.getD z.2.toNat 0 + 1) (by omega) (by omega), hn.2]
          have hlen := nxtM_len hx
          have hmu : (restM m').length < (restM m).length := by rw [er, List.length_cons]; omega
          refine ⟨⟨⟨nxtM_is hM hx, by omega, hk, rfl, ?_⟩, hmu⟩, ?_⟩
          · show (acc ++ [m]).length + _ ≤ 1000
            rw [List.length_append, List.length_singleton]; omega
          · rw [er, accM_yes ht] at hQ
            exact hQ
    all_goals
      have ht : okM ps bs s m = false := by
        unfold okM
        first
          | rw [show decide (ixS (banS (waysS s m ps).1) bs < 0) = false from c2, Bool.and_false]
          | rw [show (waysS s m ps).2 = false from c1, Bool.false_and]
      have hc := cryS_rng m.length m
      have hcl := cryS_len m.length m
      have hci := cryS_is m.length hM
      generalize cryS m m.length = z at *
      have hz := getD_is hci z.2.toNat
      refine ⟨⟨by omega, by omega, by omega⟩, fun c4 => ?_, fun c4 => ?_⟩
      · have d4 : z.2 < 0 := of_decide_eq_true c4
        cases hx : nxtM m with
        | none =>
          rw [hx] at er
          rw [er, accM_no ht, accM_nil] at hQ
          exact hQ
        | some m' =>
          rw [hx] at hn
          exact absurd hn.1 (by omega)
      · have d4 : ¬ z.2 < 0 := of_decide_eq_false c4
        have hb : 0 ≤ z.2 ∧ z.2 < (z.1.length : Int) := by omega
        have hb2 : z.2.toNat < z.1.length := by omega
        refine ⟨hb, hb2, hb, hb2, ?_⟩
        cases hx : nxtM m with
        | none =>
          rw [hx] at hn
          exact absurd hn.1 (by omega)
        | some m' =>
          rw [hx] at hn er
          dsimp only at hn er
          rw [W_id (n := z.1.getD z.2.toNat 0 + 1) (by omega) (by omega), hn.2]
          have hlen := nxtM_len hx
          have hmu : (restM m').length < (restM m).length := by rw [er, List.length_cons]; omega
          refine ⟨⟨⟨nxtM_is hM hx, by omega, hk, rfl, by omega⟩, hmu⟩, ?_⟩
          rw [er, accM_no ht] at hQ
          exact hQ

theorem G_allwM (q : A_mvs) (acc : List (List Int)) (s ps : List Int) (bs : List Ban) (mc : Int) : rangeTree (P := P) [c_ways.gc, c_bans.gc] (lpOf [(0, R_all0M q ((), (), (), (), acc, s, ps, bs, (), mc, ())), (2, R_all2M q ((), (), (), (), acc, s, ps, bs, (), mc, ()))]) (Y_mvs q) 31 (U_mvs q) 991 (rgFn C_allwM) (rgPs C_allwM).toList (rgAssign C_allwM) (rgBody C_allwM) X_allwM (L_allwM.st (U_mvs q) ((), (), (), (), acc, s, ps, bs, (), mc, ())) =
  Tree.need ((0 : Int) ≤ mc ∧ mc = mc ∧ mc ≤ (70368744177664 : Int) ∧ (↑(8 : Nat) : Int) * mc ≤ (140737488355328 : Int)) (Tree.need (inv_all0M q ((), (), (), (), acc, s, ps, bs, (), mc, ()) ((), (), List.replicate (Int.toNat mc) (0 : Int), (↑(List.length (List.replicate (Int.toNat mc) (0 : Int))) : Int), (0 : Int), acc, s, ps, bs, (), mc, ())) (Tree.need (inv_all2M q ((), (), (), (), acc, s, ps, bs, (), mc, ()) ((), (), fillS (List.replicate (Int.toNat mc) (0 : Int)) (0 : Int), acc, s, ps, bs, (), mc, ())) (Tree.leaf (Exit.normal, Lay.st L_allwM_0 (U_mvs q) (accM (okM ps bs s) acc (restM (fillS (List.replicate (Int.toNat mc) (0 : Int)) (0 : Int))), PUnit.unit))))) := by kernel_rfl

def inv_allwM (q : A_mvs) : Unit × Unit × Unit × Unit × List (List Int) × List Int × List Int × List Ban × Unit × Int × Unit → Prop := fun (_, _, _, _, acc, s, ps, bs, _, mc, _) => StOk ps bs s ∧ mc = ps.length ∧ acc = []
def O_allwM (q : A_mvs) : Unit × Unit × Unit × Unit × List (List Int) × List Int × List Int × List Ban × Unit × Int × Unit → Tree (Exit × St) := fun (_, _, _, _, acc, s, ps, bs, _) => .leaf (.normal, L_allwM_0.st (U_mvs q) (accM (okM ps bs s) [] (allM s.length), ()))
def R_allwM (q : A_mvs) : LRun := runOf 31 L_allwM (fun x => x) (inv_allwM q) (O_allwM q)
theorem H_allwM (q : A_mvs) (acc : List (List Int)) (s ps : List Int) (bs : List Ban) (mc : Int) (hinv : inv_allwM q ((), (), (), (), acc, s, ps, bs, (), mc, ())) (Q : Exit × St → Prop) (hQ : (O_allwM q ((), (), (), (), acc, s, ps, bs, (), mc, ())).holds Q) : Hold Q (rangeTree (P := P) [c_ways.gc, c_bans.gc] (lpOf [(0, R_all0M q ((), (), (), (), acc, s, ps, bs, (), mc, ())), (2, R_all2M q ((), (), (), (), acc, s, ps, bs, (), mc, ()))]) (Y_mvs q) 31 (U_mvs q) 991 (rgFn C_allwM) (rgPs C_allwM).toList (rgAssign C_allwM) (rgBody C_allwM) X_allwM (L_allwM.st (U_mvs q) ((), (), (), (), acc, s, ps, bs, (), mc, ()))) := by
    have e := G_allwM q acc s ps bs mc
    generalize rangeTree (P := P) [c_ways.gc, c_bans.gc] (lpOf [(0, R_all0M q ((), (), (), (), acc, s, ps, bs, (), mc, ())), (2, R_all2M q ((), (), (), (), acc, s, ps, bs, (), mc, ()))]) (Y_mvs q) 31 (U_mvs q) 991 (rgFn C_allwM) (rgPs C_allwM).toList (rgAssign C_allwM) (rgBody C_allwM) X_allwM (L_allwM.st (U_mvs q) ((), (), (), (), acc, s, ps, bs, (), mc, ())) = t at e ⊢
    subst e
    constructor

    obtain ⟨hk, rfl, rfl⟩ := hinv
    have l2 := hk.l2
    have l4 := hk.l4
    have sl := hk.sl
    unfold O_allwM at hQ
    dsimp only at hQ
    rw [Int.toNat_natCast, fill_rep, restM_rep]
    rw [sl] at hQ
    have h3 : 3 ^ ps.length ≤ 81 := by
      have : ps.length = 2 ∨ ps.length = 3 ∨ ps.length = 4 := by omega
      rcases this with e | e | e <;> rw [e] <;> decide
    exact ⟨⟨by omega, rfl, by omega, by omega⟩, ⟨rfl, by omega, by omega, by rw [List.length_replicate]; omega⟩, ⟨isM_rep _, List.length_replicate, hk, rfl, by rw [restM_rep, allM_card, List.length_nil]; omega⟩, hQ⟩
theorem J_allwM (q : A_mvs) (a : A_allwM) : AllK P (Y_allwM q a) 45 none (U_allwM q a) (bodyOf Try.f143) [(0, R_all0M q a), (2, R_all2M q a)] := ⟨K_all0M q a, K_all2M q a, trivial⟩
theorem K_allwM (q : A_mvs) : LoopOk P (Y_mvs q) 31 none (U_mvs q) C_allwM (R_allwM q) := by
  refine range_of hm (cx := [c_ways.gc, c_bans.gc]) (xl := X_allwM) (α := Unit × Unit × Unit × Unit × List (List Int) × List Int × List Int × List Ban × Unit × Int × Unit) (fun x => x) 991 (gf := 143) (fnI := Try.f143) (fun a => [(0, R_all0M q a), (2, R_all2M q a)]) (fun _ => rfl) (by kernel_rfl) (by kernel_rfl) ?_ (by kernel_rfl) (fun a => ⟨encK [(10031, 0)], by kernel_rfl⟩) (by kernel_rfl) ?_ ?_
  · intro e S L' h
    unfold X_allwM at h
    split at h <;> first | (cases h; done) | (cases h; kernel_rfl) | (rcases bif_some h with h | h <;> cases h <;> kernel_rfl)
  · intro a; exact J_allwM q a
  · have tup : ∀ Pr : Unit × Unit × Unit × Unit × List (List Int) × List Int × List Int × List Ban × Unit × Int × Unit → Prop, (∀ (acc : List (List Int)) (s ps : List Int) (bs : List Ban) (mc : Int), Pr ((), (), (), (), acc, s, ps, bs, (), mc, ())) → ∀ a, Pr a := fun Pr h a => h (a.2.2.2.2.1) (a.2.2.2.2.2.1) (a.2.2.2.2.2.2.1) (a.2.2.2.2.2.2.2.1) (a.2.2.2.2.2.2.2.2.2.1)
    refine tup _ ?_
    intro acc s ps bs mc hinv Q hQ
    exact H_allwM q acc s ps bs mc hinv Q hQ

theorem G_mvs (acc : List (List Int)) (s ps : List Int) (bs : List Ban) : rangeTree (P := P) [c_clone.gc, c_all.gc] (lpOf [(0, R_allwM ((), (), acc, s, ps, bs, ()))]) [] 21 noU 990 (rgFn C_mvs) (rgPs C_mvs).toList (rgAssign C_mvs) (rgBody C_mvs) X_mvs (L_mvs.st noU ((), (), acc, s, ps, bs, ())) =
  Tree.need (inv_allwM ((), (), acc, s, ps, bs, ()) ((), (), (), (), acc, s, ps, bs, (), (↑(List.length s) : Int), ())) (Tree.leaf (Exit.normal, Lay.st L_mvs_0 noU (PUnit.unit, accM (okM ps bs s) [] (allM (List.length s)), PUnit.unit))) := by kernel_rfl

def inv_mvs : Unit × Unit × List (List Int) × List Int × List Int × List Ban × Unit → Prop := fun (_, _, acc, s, ps, bs, _) => StOk ps bs s ∧ acc = []
def O_mvs : Unit × Unit × List (List Int) × List Int × List Int × List Ban × Unit → Tree (Exit × St) := fun (_, _, acc, s, ps, bs, _) => .leaf (.normal, L_mvs_0.st noU ((), accM (okM ps bs s) [] (allM s.length), ()))
def R_mvs : LRun := runOf 21 L_mvs (fun x => x) (inv_mvs) (O_mvs)
theorem H_mvs (acc : List (List Int)) (s ps : List Int) (bs : List Ban) (hinv : inv_mvs ((), (), acc, s, ps, bs, ())) (Q : Exit × St → Prop) (hQ : (O_mvs ((), (), acc, s, ps, bs, ())).holds Q) : Hold Q (rangeTree (P := P) [c_clone.gc, c_all.gc] (lpOf [(0, R_allwM ((), (), acc, s, ps, bs, ()))]) [] 21 noU 990 (rgFn C_mvs) (rgPs C_mvs).toList (rgAssign C_mvs) (rgBody C_mvs) X_mvs (L_mvs.st noU ((), (), acc, s, ps, bs, ()))) := by
    have e := G_mvs acc s ps bs
    generalize rangeTree (P := P) [c_clone.gc, c_all.gc] (lpOf [(0, R_allwM ((), (), acc, s, ps, bs, ()))]) [] 21 noU 990 (rgFn C_mvs) (rgPs C_mvs).toList (rgAssign C_mvs) (rgBody C_mvs) X_mvs (L_mvs.st noU ((), (), acc, s, ps, bs, ())) = t at e ⊢
    subst e
    constructor

    obtain ⟨hk, rfl⟩ := hinv
    have sl := hk.sl
    unfold O_mvs at hQ
    dsimp only at hQ
    exact ⟨⟨hk, by omega, rfl⟩, hQ⟩
theorem J_mvs (a : A_mvs) : AllK P (Y_mvs a) 31 none (U_mvs a) (bodyOf Try.f119) [(0, R_allwM a)] := ⟨K_allwM a, trivial⟩
theorem K_mvs : LoopOk P [] 21 none noU C_mvs (R_mvs) := by
  refine range_of hm (cx := [c_clone.gc, c_all.gc]) (xl := X_mvs) (α := Unit × Unit × List (List Int) × List Int × List Int × List Ban × Unit) (fun x => x) 990 (gf := 119) (fnI := Try.f119) (fun a => [(0, R_allwM a)]) (fun _ => rfl) (by kernel_rfl) (by kernel_rfl) ?_ (by kernel_rfl) (fun a => ⟨encK [(14021, 0), (14022, 0)], by kernel_rfl⟩) (by kernel_rfl) ?_ ?_
  · intro e S L' h
    unfold X_mvs at h
    split at h <;> first | (cases h; done) | (cases h; kernel_rfl) | (rcases bif_some h with h | h <;> cases h <;> kernel_rfl)
  · intro a; exact J_mvs a
  · have tup : ∀ Pr : Unit × Unit × List (List Int) × List Int × List Int × List Ban × Unit → Prop, (∀ (acc : List (List Int)) (s ps : List Int) (bs : List Ban), Pr ((), (), acc, s, ps, bs, ())) → ∀ a, Pr a := fun Pr h a => h (a.2.2.1) (a.2.2.2.1) (a.2.2.2.2.1) (a.2.2.2.2.2.1)
    refine tup _ ?_
    intro acc s ps bs hinv Q hQ
    exact H_mvs acc s ps bs hinv Q hQ

def movesS (r : Rig) (s : List Int) : List (List Int) := if stateS r s ≠ 0 then [] else (allM s.length).filter (okM r.1 r.2 s)
theorem leS_ll (l : List (List Int)) : LeS (.sl tIs l) (.sl tIs l) := by simp [LeS]
theorem leS_nl : LeS .nils (.sl tIs []) := by simp [LeS]
theorem stOk_of {r : Rig} {s : List Int} (h : stateS r s = 0) : StOk r.1 r.2 s := by
  obtain ⟨a1, a2, a3⟩ := stateS_in (r := r) (s := s) (.inl h)
  obtain ⟨k1, k2, k3, k4, k5⟩ := checkS_ok a1
  exact ⟨k1, k2, k3, a2, a3, k4, banEs_all k5⟩
theorem T_Moves (s0_0 : List Int) (s0_1 : List (Int × (Int × (Int × V)))) (s1 : List Int) : fnTree (P := P) [c_State.gc, c_allowed.gc] (lpOf [(0, R_mvs)]) Try.f40 (encL 0 [.agg (.pair tIs (.sl (.pair tI (.pair tI (.pair tI tV))))), .val tIs] ((s0_0, s0_1), s1, ())) =
  Tree.cond (stateS (s0_0, s0_1) s1 != (0 : Int)) (Tree.leaf SV.nils) (Tree.need (inv_mvs ((), (), [], s1, s0_0, s0_1, ())) (Tree.leaf (SV.sl (Ty.sl tI) (accM (okM s0_0 s0_1 s1) [] (allM (List.length s1)))))) := by kernel_rfl

def c_Moves : PC P := PC.of (α := (List Int × List (Int × (Int × (Int × V)))) × List Int × Unit) 40 [.agg (.pair tIs (.sl (.pair tI (.pair tI (.pair tI tV))))), .val tIs] (fun x => x) (fun x => x) (fun _ => rfl)
  (fun _ => none)
  (fun x => .sl tIs (movesS x.1 x.2.1)) (by kernel_rfl) (by
    rintro ⟨⟨s0_0, s0_1⟩, s1, ⟨⟩⟩ hp
    refine fn_le hm (by kernel_rfl) (by kernel_rfl) (T_Moves s0_0 s0_1 s1) ⟨K_mvs, trivial⟩ (by kernel_rfl) ?_

    try dsimp only at hp
    try dsimp only
    refine ⟨fun c1 => ?_, fun c1 => ⟨?_, ?_⟩⟩
    · have d1 : stateS (s0_0, s0_1) s1 ≠ 0 := by simpa using c1
      have e : movesS (s0_0, s0_1) s1 = [] := by unfold movesS; rw [if_pos d1]
      rw [e]
      exact leS_nl
    · have d1 : stateS (s0_0, s0_1) s1 = 0 := by simpa using c1
      exact ⟨stOk_of d1, rfl⟩
    · have d1 : stateS (s0_0, s0_1) s1 = 0 := by simpa using c1
      have e : movesS (s0_0, s0_1) s1 = accM (okM s0_0 s0_1 s1) [] (allM s1.length) := by unfold movesS accM; rw [if_neg (by rw [d1]; simp), List.nil_append]
      rw [e]
      exact leS_ll _)

/-! ### The reference's moves -/
def consR (x : Int) : List (List Int) → List (List Int)
  | m :: l => (x :: m) :: consR x l
  | [] => []
theorem consR_map (x : Int) : ∀ l : List (List Int), consR x l = l.map (x :: ·)
  | [] => rfl
  | m :: l => by rw [consR, consR_map x l, List.map_cons]
theorem consR_step {x i : Int} {l : List (List Int)} (h0 : 0 ≤ i) (h : i < l.length) : consR x (l.drop i.toNat) = (x :: l.getD i.toNat []) :: consR x (l.drop (i + 1).toNat) := by
  rw [drop_step ([] : List Int) h0 h, consR]
/-- From one first number on. -/
def firstsR (l : List (List Int)) : Nat → Int → List (List Int)
  | 0, _ => []
  | k + 1, x => consR x l ++ firstsR l k (x + 1)
def L_rall : Lay := { slots := [(0, .val tI)] }
def pre_rall : Int × Unit → Prop := fun (n, _) => 0 ≤ n ∧ n ≤ 8
def mu_rall : Int × Unit → Nat := fun (n, _) => n.toNat
def out_rall : Int × Unit → MOut := fun (n, _) => ⟨.own 100, [], [.row 22 tIs (allM n.toNat)]⟩
def H_rall (n : Nat) : Prop := ∀ a : Int × Unit, ndP (some (pre_rall a ∧ mu_rall a < n)) → MFnOk P 86 L_rall ((fun x => x) a) (out_rall a)
def r_rall (n : Nat) (hok : H_rall n) : MC P := MC.of (α := Int × Unit) 86 L_rall (fun x => x) (fun x => x) (fun _ => rfl) (fun a => some (pre_rall a ∧ mu_rall a < n)) out_rall (by kernel_rfl) (by kernel_rfl) (by kernel_rfl) hok

def L_rall2 : Lay := { slots := [(3, .row 22 tIs), (4, .val (.sl tIs)), (5, .val tI), (6, .val tI)] }
def L_rall2_0 : Lay := { slots := [(3, .row 22 tIs), (4, .val (.sl tIs)), (5, .val tI)] }
def X_rall2 : Exit → St → Option Lay
  | .exit 2, _ => some L_rall2_0
  | _, _ => none
abbrev C_rall2 : Code := loopC (inner (loopC (bodyOf Try.f86) 0)) 2
theorem B_rall2 (n : Nat) (hok : H_rall n) (r l : List (List Int)) (x i : Int) : loopBodyA (P := P) [] (lpOf []) [] 34 (usd noU (L_rall.ids ++ rowIds rowBase L_rall.shs)) (inner C_rall2) L_rall2 X_rall2 (α := List (List Int) × List (List Int) × Int × Int × Unit) (fun x => x) (fun x => x) (r, l, x, i, ()) =
  Tree.cond (decide (i < (↑(List.length l) : Int))) (Tree.need ((0 : Int) ≤ i ∧ i < (↑(List.length l) : Int)) (Tree.need ((List.length [x] + List.length (List.getD l (Int.toNat i) [])) * (8 : Nat) ≤ (140737488355328 : Nat)) (Tree.need ((List.length r + List.length [[x] ++ List.getD l (Int.toNat i) []]) * (24 : Nat) ≤ (140737488355328 : Nat)) (Tree.leaf (Sum.inl (r ++ [[x] ++ List.getD l (Int.toNat i) []], l, x, IntKind.wrap IntKind.i64 (i + (1 : Int)), PUnit.unit)))))) (Tree.leaf (Sum.inr (Exit.exit (2 : Nat), Lay.st L_rall2_0 (usd noU (Lay.ids L_rall ++ rowIds rowBase (Lay.shs L_rall))) (r, l, x, PUnit.unit)))) := by kernel_rfl

def inv_rall2 (n : Nat) (hok : H_rall n) : List (List Int) × List (List Int) × Int × Int × Unit → Prop := fun (r, l, x, i, ()) => 0 ≤ i ∧ i ≤ l.length ∧ l.length ≤ 10000 ∧ (r.length : Int) + (l.length - i) ≤ 100000 ∧ ∀ m ∈ l, m.length ≤ 10
def O_rall2 (n : Nat) (hok : H_rall n) : List (List Int) × List (List Int) × Int × Int × Unit → Tree (Exit × St) := fun (r, l, x, i, ()) => (.leaf (.exit 2, L_rall2_0.st (usd noU (L_rall.ids ++ rowIds rowBase L_rall.shs)) ((r ++ consR x (l.drop i.toNat)), l, x, ())))
def R_rall2 (n : Nat) (hok : H_rall n) : LRun := runOf 34 L_rall2 (fun x => x) (inv_rall2 n hok) (O_rall2 n hok)
theorem K_rall2 (n : Nat) (hok : H_rall n) : LoopOk P [] 34 none (usd noU (L_rall.ids ++ rowIds rowBase L_rall.shs)) C_rall2 (R_rall2 n hok) := by
  refine loop_of hm (cx := []) [] (xl := X_rall2) (α := List (List Int) × List (List Int) × Int × Int × Unit) (fun x => x) (fun (r, l, x, i, ()) => ((l.length : Int) - i).toNat) (fun _ => rfl) (by kernel_rfl) (by kernel_rfl) ?_ (by kernel_rfl) trivial ?_
  · intro e S L' h
    unfold X_rall2 at h
    split at h <;> first | (cases h; done) | (cases h; kernel_rfl) | (rcases bif_some h with h | h <;> cases h <;> kernel_rfl)
  · rintro ⟨r, l, x, i, ⟨⟩⟩ hinv Q hQ
    refine hold_of_eq (B_rall2 n hok r l x i) ?_

    obtain ⟨h0, h1, h2, h3, h4⟩ := hinv
    rw [W_id (n := i + 1) (by omega) (by omega)]
    have hQ' : Q (.exit 2, L_rall2_0.st (usd noU (L_rall.ids ++ rowIds rowBase L_rall.shs)) (r ++ consR x (l.drop i.toNat), l, x, ())) := hQ
    refine ⟨fun c1 => ?_, fun c1 => ?_⟩
    · have d1 : i < l.length := of_decide_eq_true c1
      have hm : ((l.length : Int) - (i + 1)).toNat < ((l.length : Int) - i).toNat := by omega
      have hl := h4 _ (getD_mem (d := ([] : List Int)) (show i.toNat < l.length by omega))
      rw [consR_step h0 d1, List.append_cons] at hQ'
      refine ⟨⟨h0, d1⟩, ?_, ?_, ⟨⟨by omega, by omega, h2, ?_, h4⟩, hm⟩, hQ'⟩
      · show (1 + (l.getD i.toNat []).length) * 8 ≤ 140737488355328; omega
      · show (r.length + 1) * 24 ≤ 140737488355328; omega
      · show ((r ++ [_]).length : Int) + _ ≤ _
        rw [List.length_append]; show ((r.length + 1 : Nat) : Int) + _ ≤ _; omega
    · have d1 : ¬ i < l.length := of_decide_eq_false c1
      rw [drop_end d1, consR, List.append_nil] at hQ'
      exact hQ'
def L_rall0 : Lay := { slots := [(3, .row 22 tIs), (4, .val (.sl tIs)), (5, .val tI)] }
def L_rall0_0 : Lay := { slots := [(3, .row 22 tIs)] }
def X_rall0 : Exit → St → Option Lay
  | .exit 0, _ => some L_rall0_0
  | _, _ => none
abbrev C_rall0 : Code := loopC (bodyOf Try.f86) 0
theorem B_rall0 (n : Nat) (hok : H_rall n) (r l : List (List Int)) (x : Int) : loopBodyA (P := P) [] (lpOf [(2, R_rall2 n hok)]) [] 34 (usd noU (L_rall.ids ++ rowIds rowBase L_rall.shs)) (inner C_rall0) L_rall0 X_rall0 (α := List (List Int) × List (List Int) × Int × Unit) (fun x => x) (fun x => x) (r, l, x, ()) =
  Tree.cond (decide (x ≤ (1 : Int))) (Tree.need (inv_rall2 n hok (r, l, x, (0 : Int), ())) (Tree.leaf (Sum.inl (r ++ consR x (List.drop (Int.toNat (0 : Int)) l), l, IntKind.wrap IntKind.i64 (x + (1 : Int)), PUnit.unit)))) (Tree.leaf (Sum.inr (Exit.exit (0 : Nat), Lay.st L_rall0_0 (usd noU (Lay.ids L_rall ++ rowIds rowBase (Lay.shs L_rall))) (r, PUnit.unit)))) := by kernel_rfl

def inv_rall0 (n : Nat) (hok : H_rall n) : List (List Int) × List (List Int) × Int × Unit → Prop := fun (r, l, x, ()) => -1 ≤ x ∧ x ≤ 2 ∧ l.length ≤ 10000 ∧ (r.length : Int) ≤ 10000 * (x + 1) ∧ ∀ m ∈ l, m.length ≤ 10
def O_rall0 (n : Nat) (hok : H_rall n) : List (List Int) × List (List Int) × Int × Unit → Tree (Exit × St) := fun (r, l, x, ()) => (.leaf (.exit 0, L_rall0_0.st (usd noU (L_rall.ids ++ rowIds rowBase L_rall.shs)) ((r ++ firstsR l (2 - x).toNat x), ())))
def R_rall0 (n : Nat) (hok : H_rall n) : LRun := runOf 34 L_rall0 (fun x => x) (inv_rall0 n hok) (O_rall0 n hok)
theorem K_rall0 (n : Nat) (hok : H_rall n) : LoopOk P [] 34 none (usd noU (L_rall.ids ++ rowIds rowBase L_rall.shs)) C_rall0 (R_rall0 n hok) := by
  refine loop_of hm (cx := []) [(2, R_rall2 n hok)] (xl := X_rall0) (α := List (List Int) × List (List Int) × Int × Unit) (fun x => x) (fun (r, l, x, ()) => (2 - x).toNat) (fun _ => rfl) (by kernel_rfl) (by kernel_rfl) ?_ (by kernel_rfl) ⟨K_rall2 n hok, trivial⟩ ?_
  · intro e S L' h
    unfold X_rall0 at h
    split at h <;> first | (cases h; done) | (cases h; kernel_rfl) | (rcases bif_some h with h | h <;> cases h <;> kernel_rfl)
  · rintro ⟨r, l, x, ⟨⟩⟩ hinv Q hQ
    refine hold_of_eq (B_rall0 n hok r l x) ?_

    obtain ⟨h0, h1, h2, h3, h4⟩ := hinv
    rw [W_id (n := x + 1) (by omega) (by omega)]
    simp only [Int.toNat_zero, List.drop_zero]
    have hQ' : Q (.exit 0, L_rall0_0.st (usd noU (L_rall.ids ++ rowIds rowBase L_rall.shs)) (r ++ firstsR l (2 - x).toNat x, ())) := hQ
    refine ⟨fun c1 => ?_, fun c1 => ?_⟩
    · have d1 : x ≤ 1 := of_decide_eq_true c1
      have hm : (2 - (x + 1)).toNat < (2 - x).toNat := by omega
      rw [show (2 - x).toNat = (2 - (x + 1)).toNat + 1 by omega, firstsR, ← List.append_assoc] at hQ'
      refine ⟨⟨by decide, by omega, h2, by omega, h4⟩, ⟨⟨by omega, by omega, h2, ?_, h4⟩, hm⟩, hQ'⟩
      show ((r ++ consR x l).length : Int) ≤ _
      rw [List.length_append, consR_map, List.length_map]
      omega
    · have d1 : ¬ x ≤ 1 := of_decide_eq_false c1
      rw [show (2 - x).toNat = 0 by omega, firstsR, List.append_nil] at hQ'
      exact hQ'
theorem firsts_all (n : Nat) : firstsR (allM n) 3 (-1) = allM (n + 1) := by
  rw [firstsR, firstsR, firstsR, firstsR, consR_map, consR_map, consR_map, List.append_nil, allM]
  rfl
theorem T_rall (n : Nat) (hok : H_rall n) (m : Int) : mTree (P := P) [(r_rall n hok).gc] (lpOf [(0, R_rall0 n hok)]) Try.f86 L_rall true (m, ()) =
  Tree.cond (m == (0 : Int)) (Tree.leaf { res := SV.own (nat_lit 100), boxes := [], news := [Ob.row (22 : Nat) (Ty.sl (Ty.int IntKind.i64)) [[]]] }) (Tree.need (pre_rall (IntKind.wrap IntKind.i64 (m - (1 : Int)), ()) ∧ mu_rall (IntKind.wrap IntKind.i64 (m - (1 : Int)), ()) < n) (Tree.need (inv_rall0 n hok ([], allM (Int.toNat (IntKind.wrap IntKind.i64 (m - (1 : Int)))), (-1 : Int), ())) (Tree.leaf { res := SV.own (nat_lit 100), boxes := [], news := [Ob.row (22 : TypeId) tIs (firstsR (allM (Int.toNat (IntKind.wrap IntKind.i64 (m - (1 : Int))))) (Int.toNat ((2 : Int) - (-1 : Int))) (-1 : Int))] }))) := by kernel_rfl

theorem M_rall : ∀ n, H_rall n := by
  intro n
  induction n with
  | zero => exact fun a h => absurd h.2 (Nat.not_lt_zero _)
  | succ n hok =>
    rintro ⟨m, ⟨⟩⟩ hp
    refine m_of hm (own := true) (by kernel_rfl) (by kernel_rfl) (by kernel_rfl) (T_rall n hok m) ⟨K_rall0 n hok, trivial⟩ ?_

    obtain ⟨⟨p1, p2⟩, p3⟩ : (0 ≤ m ∧ m ≤ 8) ∧ m.toNat < n + 1 := hp
    have h3 : 3 ^ (m - 1).toNat ≤ 10000 := by
      have : (m - 1).toNat = 0 ∨ (m - 1).toNat = 1 ∨ (m - 1).toNat = 2 ∨ (m - 1).toNat = 3 ∨ (m - 1).toNat = 4 ∨ (m - 1).toNat = 5 ∨ (m - 1).toNat = 6 ∨ (m - 1).toNat = 7 := by omega
      rcases this with e | e | e | e | e | e | e | e <;> rw [e] <;> decide
    rw [W_id (n := m - 1) (by omega) (by omega)]
    refine ⟨fun c1 => ?_, fun c1 => ?_⟩
    · have d1 : m = 0 := eq_of_beq c1
      subst d1
      rfl
    · have d1 : m ≠ 0 := ne_of_beq_false c1
      refine ⟨⟨⟨by omega, by omega⟩, by show (m - 1).toNat < n; omega⟩, ⟨by decide, by decide, by rw [allM_card]; exact h3, by rw [List.length_nil]; decide, fun x hx => by rw [allM_len hx]; omega⟩, ?_⟩
      have e : firstsR (allM (m - 1).toNat) (2 - -1 : Int).toNat (-1) = allM m.toNat := by
        rw [show (2 - -1 : Int).toNat = 3 by decide, firsts_all, show (m - 1).toNat + 1 = m.toNat by omega]
      exact congrArg (fun k : List (List Int) => (⟨.own 100, [], [.row 22 tIs k]⟩ : MOut)) e
def c_rall : MC P := MC.of (α := Int × Unit) 86 L_rall (fun x => x) (fun x => x) (fun _ => rfl) (fun a => some (pre_rall a)) out_rall (by kernel_rfl) (by kernel_rfl) (by kernel_rfl) (fun a h => M_rall (mu_rall a + 1) a ⟨h, Nat.lt_succ_self _⟩)
theorem moveS_of {r : Rig} {m : List Int} (hl : m.length = r.1.length) (hm : isM m) : moveS r m = true := by
  unfold moveS
  rw [decide_eq_true (by omega), Bool.true_and]
  cases e : m.any badM with
  | false => rfl
  | true =>
    rw [List.any_eq_true] at e
    obtain ⟨x, hx, hb⟩ := e
    have := hm x hx
    unfold badM wi at hb
    rw [decide_eq_true (by omega), decide_eq_true (by omega)] at hb
    cases hb
theorem allow_ok {r : Rig} {s m : List Int} (h : stateS r s = 0) (hm : moveS r m = true) : (allowS r s m).1 = okM r.1 r.2 s m := by
  unfold allowS okM
  rw [if_neg (by rw [h, hm]; simp)]
  cases e : (waysS s m r.1).2 with
  | false => rw [if_pos rfl, Bool.false_and]
  | true => rw [if_neg (by simp), Bool.true_and]
theorem filter_congr' {p q : List Int → Bool} : ∀ {l : List (List Int)}, (∀ x ∈ l, p x = q x) → l.filter p = l.filter q
  | [], _ => rfl
  | x :: l, h => by
    rw [List.filter_cons, List.filter_cons, h x (by simp), filter_congr' (fun y hy => h y (List.mem_cons_of_mem _ hy))]
def L_rmv0 : Lay := { slots := [(1, .val tIs), (2, .ptr 3042 0), (5, .row 22 tIs), (6, .val (.sl tIs)), (7, .val tI)], boxes := [(3042, [.val tIs, .val (.sl (.pair tI (.pair tI (.pair tI tV))))])] }
def L_rmv0_0 : Lay := { slots := [(5, .row 22 tIs)] }
def X_rmv0 : Exit → St → Option Lay
  | .exit 0, _ => some L_rmv0_0
  | _, _ => none
abbrev C_rmv0 : Code := loopC (bodyOf Try.f41) 0
theorem B_rmv0 (s : List Int) (r l : List (List Int)) (i : Int) (ps : List Int) (bs : List (Int × (Int × (Int × V)))) : loopBodyA (P := P) [c_rAllowed.gc] (lpOf []) [] 42 noU (inner C_rmv0) L_rmv0 X_rmv0 (α := List Int × Unit × List (List Int) × List (List Int) × Int × List Int × List (Int × (Int × (Int × V))) × Unit) (fun x => x) (fun x => x) (s, (), r, l, i, ps, bs, ()) =
  Tree.cond (decide (i < (↑(List.length l) : Int))) (Tree.need ((0 : Int) ≤ i ∧ i < (↑(List.length l) : Int)) (Tree.need ((↑(List.length s) : Int) < (2 : Int) ^ (62 : Nat) ∧ (↑(List.length (List.getD l (Int.toNat i) [])) : Int) < (2 : Int) ^ (62 : Nat)) (Tree.cond (allowS (ps, bs) s (List.getD l (Int.toNat i) [])).fst (Tree.need ((0 : Int) ≤ i ∧ i < (↑(List.length l) : Int)) (Tree.need ((List.length r + List.length [List.getD l (Int.toNat i) []]) * (24 : Nat) ≤ (140737488355328 : Nat)) (Tree.leaf (Sum.inl (s, PUnit.unit, r ++ [List.getD l (Int.toNat i) []], l, IntKind.wrap IntKind.i64 (i + (1 : Int)), ps, bs, PUnit.unit))))) (Tree.leaf (Sum.inl (s, PUnit.unit, r, l, IntKind.wrap IntKind.i64 (i + (1 : Int)), ps, bs, PUnit.unit)))))) (Tree.leaf (Sum.inr (Exit.exit (0 : Nat), Lay.st L_rmv0_0 noU (r, PUnit.unit)))) := by kernel_rfl

def inv_rmv0 : List Int × Unit × List (List Int) × List (List Int) × Int × List Int × List (Int × (Int × (Int × V))) × Unit → Prop := fun (s, (), r, l, i, ps, bs, ()) => 0 ≤ i ∧ i ≤ l.length ∧ l.length ≤ 10000 ∧ (r.length : Int) ≤ i ∧ (s.length : Int) < 2 ^ 62 ∧ ∀ m ∈ l, m.length ≤ 10
def O_rmv0 : List Int × Unit × List (List Int) × List (List Int) × Int × List Int × List (Int × (Int × (Int × V))) × Unit → Tree (Exit × St) := fun (s, (), r, l, i, ps, bs, ()) => (.leaf (.exit 0, L_rmv0_0.st noU ((accM (fun m => (allowS (ps, bs) s m).1) r (l.drop i.toNat)), ())))
def R_rmv0 : LRun := runOf 42 L_rmv0 (fun x => x) (inv_rmv0) (O_rmv0)
theorem K_rmv0 : LoopOk P [] 42 none noU C_rmv0 (R_rmv0) := by
  refine loop_of hm (cx := [c_rAllowed.gc]) [] (xl := X_rmv0) (α := List Int × Unit × List (List Int) × List (List Int) × Int × List Int × List (Int × (Int × (Int × V))) × Unit) (fun x => x) (fun (s, (), r, l, i, ps, bs, ()) => ((l.length : Int) - i).toNat) (fun _ => rfl) (by kernel_rfl) (by kernel_rfl) ?_ (by kernel_rfl) trivial ?_
  · intro e S L' h
    unfold X_rmv0 at h
    split at h <;> first | (cases h; done) | (cases h; kernel_rfl) | (rcases bif_some h with h | h <;> cases h <;> kernel_rfl)
  · rintro ⟨s, ⟨⟩, r, l, i, ps, bs, ⟨⟩⟩ hinv Q hQ
    refine hold_of_eq (B_rmv0 s r l i ps bs) ?_

    obtain ⟨h0, h1, h2, h3, h4, h5⟩ := hinv
    rw [W_id (n := i + 1) (by omega) (by omega)]
    have hQ' : Q (.exit 0, L_rmv0_0.st noU (accM (fun m => (allowS (ps, bs) s m).1) r (l.drop i.toNat), ())) := hQ
    refine ⟨fun c1 => ?_, fun c1 => ?_⟩
    · have d1 : i < l.length := of_decide_eq_true c1
      have hm : ((l.length : Int) - (i + 1)).toNat < ((l.length : Int) - i).toNat := by omega
      have hl := h5 _ (getD_mem (d := ([] : List Int)) (show i.toNat < l.length by omega))
      rw [drop_step ([] : List Int) h0 d1] at hQ'
      refine ⟨⟨h0, d1⟩, ⟨h4, by omega⟩, fun c2 => ⟨⟨h0, d1⟩, ?_, ⟨⟨by omega, by omega, h2, ?_, h4, h5⟩, hm⟩, ?_⟩, fun c2 => ⟨⟨⟨by omega, by omega, h2, by omega, h4, h5⟩, hm⟩, ?_⟩⟩
      · show (r.length + 1) * 24 ≤ 140737488355328; omega
      · show ((r ++ [_]).length : Int) ≤ _
        rw [List.length_append]; show ((r.length + 1 : Nat) : Int) ≤ _; omega
      · rw [accM_yes c2] at hQ'
        exact hQ'
      · rw [accM_no c2] at hQ'
        exact hQ'
    · have d1 : ¬ i < l.length := of_decide_eq_false c1
      rw [drop_end d1, accM_nil] at hQ'
      exact hQ'
theorem T_rMoves (s0_0 : List Int) (s0_1 : List (Int × (Int × (Int × V)))) (s1 : List Int) : fnTree (P := P) [c_rState.gc, c_rall.gc] (lpOf [(0, R_rmv0)]) Try.f41 (encL 0 [.agg (.pair tIs (.sl (.pair tI (.pair tI (.pair tI tV))))), .val tIs] ((s0_0, s0_1), s1, ())) =
  Tree.need ((↑(List.length s1) : Int) < (2 : Int) ^ (62 : Nat)) (Tree.cond (stateS (s0_0, s0_1) s1 != (0 : Int)) (Tree.leaf SV.nils) (Tree.need (pre_rall ((↑(List.length s1) : Int), ())) (Tree.need (inv_rmv0 (s1, (), [], allM (Int.toNat (↑(List.length s1) : Int)), (0 : Int), s0_0, s0_1, ())) (Tree.leaf (SV.sl (Ty.sl tI) (accM (fun m => (allowS (s0_0, s0_1) s1 m).fst) [] (List.drop (Int.toNat (0 : Int)) (allM (Int.toNat (↑(List.length s1) : Int)))))))))) := by kernel_rfl

def c_rMoves : PC P := PC.of (α := (List Int × List (Int × (Int × (Int × V)))) × List Int × Unit) 41 [.agg (.pair tIs (.sl (.pair tI (.pair tI (.pair tI tV))))), .val tIs] (fun x => x) (fun x => x) (fun _ => rfl)
  (fun x => some ((x.2.1.length : Int) < 2 ^ 62))
  (fun x => .sl tIs (movesS x.1 x.2.1)) (by kernel_rfl) (by
    rintro ⟨⟨s0_0, s0_1⟩, s1, ⟨⟩⟩ hp
    refine fn_le hm (by kernel_rfl) (by kernel_rfl) (T_rMoves s0_0 s0_1 s1) ⟨K_rmv0, trivial⟩ (by kernel_rfl) ?_

    try dsimp only at hp
    try dsimp only
    have hp' : (s1.length : Int) < 2 ^ 62 := hp
    refine ⟨hp', fun c1 => ?_, fun c1 => ?_⟩
    · have d1 : stateS (s0_0, s0_1) s1 ≠ 0 := by simpa using c1
      have e : movesS (s0_0, s0_1) s1 = [] := by unfold movesS; rw [if_pos d1]
      rw [e]
      exact leS_nl
    · have d1 : stateS (s0_0, s0_1) s1 = 0 := by simpa using c1
      have hs := stOk_of d1
      have l4 := hs.l4
      have sl := hs.sl
      dsimp only at l4 sl
      have h3 : 3 ^ s1.length ≤ 10000 := by
        have : s1.length = 0 ∨ s1.length = 1 ∨ s1.length = 2 ∨ s1.length = 3 ∨ s1.length = 4 := by omega
        rcases this with e | e | e | e | e <;> rw [e] <;> decide
      rw [Int.toNat_natCast]
      refine ⟨⟨by omega, by omega⟩, ⟨by decide, by omega, by rw [allM_card]; exact h3, by decide, hp', fun x hx => by rw [allM_len hx]; omega⟩, ?_⟩
      have e : movesS (s0_0, s0_1) s1 = accM (fun m => (allowS (s0_0, s0_1) s1 m).1) [] (allM s1.length) := by
        unfold movesS accM
        rw [if_neg (by rw [d1]; simp), List.nil_append]
        exact filter_congr' fun x hx => (allow_ok d1 (moveS_of (by rw [allM_len hx]; exact sl) (allM_is hx))).symm
      rw [e]
      exact leS_ll _)

end
end Go.MR
