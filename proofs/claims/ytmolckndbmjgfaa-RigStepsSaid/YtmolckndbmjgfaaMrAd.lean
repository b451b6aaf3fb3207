/- RigSteps. -/
import Derived.Test.YtmolckndbmjgfaaMrAc
import Derived.Test.YtmolckndbmjgfaaMrV
namespace Go.MR
open Go Go.Sx Go.Proofs
set_option linter.unusedVariables false
set_option linter.unusedSimpArgs false
noncomputable section

def L_SameIntsX : Lay := { slots := [(0, .val tIs), (1, .val tIs)] }
theorem T_SameIntsX (a b : List Int) : mTree (P := P) [] (lpOf [(0, R_sameI)]) Try.f36 L_SameIntsX true (a, b, ()) =
  Tree.need (inv_sameI (a, b, (0 : Int), ())) (Tree.cond (eqC (List.drop (Int.toNat (0 : Int)) a) (List.drop (Int.toNat (0 : Int)) b)) (Tree.leaf { res := SV.bool ((↑(List.length a) : Int) == (↑(List.length b) : Int)), boxes := [] }) (Tree.leaf { res := SV.bool false, boxes := [] })) := by kernel_rfl

def c_SameIntsX : XC P := XC.of (α := List Int × List Int × Unit) 36 L_SameIntsX (fun x => x) (fun x => x) (fun _ => rfl)
  (fun x => some ((x.1.length : Int) < 2 ^ 62))
  (fun x => ⟨.bool (decide (x.1 = x.2.1)), [], []⟩) (by kernel_rfl) (by kernel_rfl) (by
    rintro ⟨a, b, ⟨⟩⟩ hp
    refine m_of hm (own := true) (by kernel_rfl) (by kernel_rfl) (by kernel_rfl) (T_SameIntsX a b) ⟨K_sameI, trivial⟩ ?_

    try dsimp only at hp
    try dsimp only
    have hp' : (a.length : Int) < 2 ^ 62 := hp
    rw [← eqC_eq]
    refine ⟨⟨by decide, by omega, by omega, hp'⟩, fun c1 => ?_, fun c1 => ?_⟩
    · exact congrArg (fun z => (⟨SV.bool z, [], []⟩ : MOut)) (by rw [show eqC a b = true from c1, Bool.true_and])
    · exact congrArg (fun z => (⟨SV.bool z, [], []⟩ : MOut)) (by rw [show eqC a b = false from c1, Bool.false_and]))
theorem folA_len (r : Rig) : ∀ (l : List (List Int)) (i : Int) (s : List Int), s.length ≤ 4 → (folS r l i s).2.length ≤ 4
  | [], i, s, h => h
  | m :: l, i, s, h => by
    rw [folS]
    split
    · exact h
    · exact folA_len r l _ _ (stepS_len r s m [])
theorem followS_len (r : Rig) (s : List Int) (pl : List (List Int)) : (followS r s pl).2.1.length ≤ 4 := by
  unfold followS
  split
  · exact Nat.zero_le _
  · rename_i c
    have hs := stOk_of (show stateS (r.1, r.2) s = 0 by simpa using c)
    have l4 := hs.l4
    have sl := hs.sl
    dsimp only at l4 sl
    exact folA_len r pl 0 s (by omega)
def mvL (l : List Int) (n : Nat) : Nat → Int → List (List Int)
  | 0, _ => []
  | j + 1, k => mvS l n k :: mvL l n j (k + n)
theorem mvL_len (l : List Int) (n : Nat) : ∀ (j : Nat) (k : Int), (mvL l n j k).length = j
  | 0, _ => rfl
  | j + 1, k => by rw [mvL, List.length_cons, mvL_len]
theorem mvL_mem {l : List Int} {n : Nat} : ∀ {j : Nat} {k : Int}, ∀ m ∈ mvL l n j k, m.length = n
  | 0, _, m, h => by cases h
  | j + 1, k, m, h => by
    rw [mvL] at h
    rcases List.mem_cons.1 h with rfl | h
    · exact mvS_len _ _ _
    · exact mvL_mem m h
def mvA (mv : List (List Int)) (l : List Int) (n j : Nat) (k : Int) : List (List Int) := mv ++ mvL l n j k
theorem mvA_zero (mv : List (List Int)) (l : List Int) (n : Nat) (k : Int) : mvA mv l n 0 k = mv := List.append_nil _
theorem mvA_step (mv : List (List Int)) (l : List Int) (n j : Nat) (k : Int) : mvA mv l n (j + 1) k = mvA (mv ++ [mvS l n k]) l n j (k + n) := by
  unfold mvA
  rw [mvL, List.append_assoc]; rfl
def L_sts0 : Lay := { slots := [(1, .val tIs), (2, .val tIs), (3, .val tIs), (4, .val (.sl tIs)), (6, .ptr 7213 0), (13, .ptr 59213 0), (14, .ptr 15213 0), (15, .row 22 tIs), (16, .val tI)], boxes := [(7213, [.val tIs, .val (.sl (.pair tI (.pair tI (.pair tI tV))))]), (15213, [.val tIs, .val (.sl (.pair tI (.pair tI (.pair tI tV))))]), (59213, [.val tIs, .val tI])] }
def L_sts0_0 : Lay := { slots := [(1, .val tIs), (2, .val tIs), (3, .val tIs), (4, .val (.sl tIs)), (6, .ptr 7213 0), (13, .ptr 59213 0), (14, .ptr 15213 0), (15, .val (.sl tIs))], boxes := [(7213, [.val tIs, .val (.sl (.pair tI (.pair tI (.pair tI tV))))]), (15213, [.val tIs, .val (.sl (.pair tI (.pair tI (.pair tI tV))))]), (59213, [.val tIs, .val tI])] }
def X_sts0 : Exit → St → Option Lay
  | .exit 0, _ => some L_sts0_0
  | _, _ => none
abbrev C_sts0 : Code := loopC (bodyOf Try.f11) 0
theorem B_sts0 (s m lost : List Int) (plan mv : List (List Int)) (k : Int) (xps : List Int) (xbs : List (Int × (Int × (Int × V)))) (ps : List Int) (bs : List (Int × (Int × (Int × V)))) (l : List Int) (rk : Int) : loopBodyA (P := P) [c_Move.gc] (lpOf []) [] 213 noU (inner C_sts0) L_sts0 X_sts0 (α := List Int × List Int × List Int × List (List Int) × Unit × Unit × Unit × List (List Int) × Int × List Int × List (Int × (Int × (Int × V))) × List Int × List (Int × (Int × (Int × V))) × List Int × Int × Unit) (fun x => x) (fun x => x) (s, m, lost, plan, (), (), (), mv, k, xps, xbs, ps, bs, l, rk, ()) =
  Tree.cond (decide (k < (6 : Int))) (Tree.need ((0 : Int) < (↑(List.length ps) : Int) ∧ (↑(List.length ps) : Int) ≤ (10 : Int) ∧ (0 : Int) ≤ rk ∧ rk ≤ (500000000 : Int)) (Tree.need ((List.length mv + List.length [mvS l (Int.toNat (↑(List.length ps) : Int)) rk]) * (24 : Nat) ≤ (140737488355328 : Nat)) (Tree.leaf (Sum.inl (s, m, lost, plan, PUnit.unit, PUnit.unit, PUnit.unit, mv ++ [mvS l (Int.toNat (↑(List.length ps) : Int)) rk], IntKind.wrap IntKind.i64 (k + (1 : Int)), xps, xbs, ps, bs, l, rk + (↑(List.length ps) : Int), PUnit.unit))))) (Tree.leaf (Sum.inr (Exit.exit (0 : Nat), Lay.st L_sts0_0 noU (s, m, lost, plan, PUnit.unit, PUnit.unit, PUnit.unit, mv, xps, xbs, ps, bs, l, rk, PUnit.unit)))) := by kernel_rfl

def inv_sts0 : List Int × List Int × List Int × List (List Int) × Unit × Unit × Unit × List (List Int) × Int × List Int × List (Int × (Int × (Int × V))) × List Int × List (Int × (Int × (Int × V))) × List Int × Int × Unit → Prop := fun (s, m, lost, plan, (), (), (), mv, k, xps, xbs, ps, bs, l, rk, ()) => 0 ≤ k ∧ k ≤ 6 ∧ 1 ≤ ps.length ∧ ps.length ≤ 10 ∧ 0 ≤ rk ∧ rk + 10 * (6 - k) ≤ 1000000 ∧ (mv.length : Int) = k
def O_sts0 : List Int × List Int × List Int × List (List Int) × Unit × Unit × Unit × List (List Int) × Int × List Int × List (Int × (Int × (Int × V))) × List Int × List (Int × (Int × (Int × V))) × List Int × Int × Unit → Tree (Exit × St) := fun (s, m, lost, plan, (), (), (), mv, k, xps, xbs, ps, bs, l, rk, ()) => (.leaf (.exit 0, L_sts0_0.st noU (s, m, lost, plan, (), (), (), (mvA mv l ps.length (6 - k).toNat rk), xps, xbs, ps, bs, l, (rk + (6 - k) * (ps.length : Int)), ())))
def R_sts0 : LRun := runOf 213 L_sts0 (fun x => x) (inv_sts0) (O_sts0)
theorem K_sts0 : LoopOk P [] 213 none noU C_sts0 (R_sts0) := by
  refine loop_of hm (cx := [c_Move.gc]) [] (xl := X_sts0) (α := List Int × List Int × List Int × List (List Int) × Unit × Unit × Unit × List (List Int) × Int × List Int × List (Int × (Int × (Int × V))) × List Int × List (Int × (Int × (Int × V))) × List Int × Int × Unit) (fun x => x) (fun (s, m, lost, plan, (), (), (), mv, k, xps, xbs, ps, bs, l, rk, ()) => (6 - k).toNat) (fun _ => rfl) (by kernel_rfl) (by kernel_rfl) ?_ (by kernel_rfl) trivial ?_
  · intro e S L' h
    unfold X_sts0 at h
    split at h <;> first | (cases h; done) | (cases h; kernel_rfl) | (rcases bif_some h with h | h <;> cases h <;> kernel_rfl)
  · rintro ⟨s, m, lost, plan, ⟨⟩, ⟨⟩, ⟨⟩, mv, k, xps, xbs, ps, bs, l, rk, ⟨⟩⟩ hinv Q hQ
    refine hold_of_eq (B_sts0 s m lost plan mv k xps xbs ps bs l rk) ?_

    obtain ⟨h0, h1, h2, h3, h4, h5, h6⟩ := hinv
    rw [W_id (n := k + 1) (by omega) (by omega)]
    have hQ' : Q (.exit 0, L_sts0_0.st noU (s, m, lost, plan, (), (), (), mvA mv l ps.length (6 - k).toNat rk, xps, xbs, ps, bs, l, rk + (6 - k) * (ps.length : Int), ())) := hQ
    refine ⟨fun c1 => ?_, fun c1 => ?_⟩
    · have d1 : k < 6 := of_decide_eq_true c1
      have hm : (6 - (k + 1)).toNat < (6 - k).toNat := by omega
      have e1 : rk + (6 - k) * (ps.length : Int) = rk + (ps.length : Int) + (6 - (k + 1)) * (ps.length : Int) := by
        have : (6 - k) * (ps.length : Int) = (1 + (6 - (k + 1))) * (ps.length : Int) := by congr 1; omega
        rw [this, Int.add_mul]; omega
      rw [show (6 - k).toNat = (6 - (k + 1)).toNat + 1 by omega, mvA_step, e1] at hQ'
      rw [Int.toNat_natCast]
      refine ⟨⟨by omega, by omega, h4, by omega⟩, by simp only [List.length_cons, List.length_nil]; omega, ⟨⟨by omega, by omega, h2, h3, by omega, by omega, by rw [List.length_append, List.length_singleton]; omega⟩, hm⟩, hQ'⟩
    · have d1 : ¬ k < 6 := of_decide_eq_false c1
      rw [show (6 - k).toNat = 0 by omega, mvA_zero, show (6 : Int) - k = 0 by omega, Int.zero_mul, Int.add_zero] at hQ'
      exact hQ'
def L_sts24 : Lay := { slots := [(3, .val tIs), (17, .row 27 (.pair tIs (.sl (.pair tI (.pair tI (.pair tI tV)))))), (18, .row 22 tIs), (19, .row 22 tIs), (20, .row 44 (.sl tIs)), (21, .val tI), (22, .row 3 tI), (28, .row 3 tI), (33, .val tI)] }
def L_sts24_0 : Lay := { slots := [(3, .val tIs), (17, .row 27 (.pair tIs (.sl (.pair tI (.pair tI (.pair tI tV)))))), (18, .row 22 tIs), (19, .row 22 tIs), (20, .row 44 (.sl tIs)), (21, .val tI), (22, .row 3 tI)] }
def X_sts24 : Exit → St → Option Lay
  | .exit 4, _ => some L_sts24_0
  | _, _ => none
abbrev C_sts24 : Code := loopC (inner (loopC (bodyOf Try.f11) 2)) 4
theorem B_sts24 (lost : List Int) (rs : List (List Int × List (Int × (Int × (Int × V))))) (ss fs : List (List Int)) (pls : List (List (List Int))) (i : Int) (own d : List Int) (j : Int) : loopBodyA (P := P) [] (lpOf []) [] 213 noU (inner C_sts24) L_sts24 X_sts24 (α := List Int × List (List Int × List (Int × (Int × (Int × V)))) × List (List Int) × List (List Int) × List (List (List Int)) × Int × List Int × List Int × Int × Unit) (fun x => x) (fun x => x) (lost, rs, ss, fs, pls, i, own, d, j, ()) =
  Tree.cond (decide (j < (↑(List.length d) : Int))) (Tree.need ((0 : Int) ≤ j ∧ j < (↑(List.length d) : Int)) (Tree.need (Int.toNat j < List.length d) (Tree.need ((0 : Int) ≤ j ∧ j < (↑(List.length d) : Int)) (Tree.need (Int.toNat j < List.length d) (Tree.leaf (Sum.inl (lost, rs, ss, fs, pls, i, own, List.set d (Int.toNat j) (IntKind.wrap IntKind.i64 (List.getD d (Int.toNat j) (0 : Int) + (1 : Int))), IntKind.wrap IntKind.i64 (j + (1 : Int)), PUnit.unit))))))) (Tree.leaf (Sum.inr (Exit.exit (4 : Nat), Lay.st L_sts24_0 noU (lost, rs, ss, fs, pls, i, own, PUnit.unit)))) := by kernel_rfl

def inv_sts24 : List Int × List (List Int × List (Int × (Int × (Int × V)))) × List (List Int) × List (List Int) × List (List (List Int)) × Int × List Int × List Int × Int × Unit → Prop := fun (lost, rs, ss, fs, pls, i, own, d, j, ()) => 0 ≤ j ∧ j ≤ d.length ∧ (d.length : Int) < 2 ^ 62
def O_sts24 : List Int × List (List Int × List (Int × (Int × (Int × V)))) × List (List Int) × List (List Int) × List (List (List Int)) × Int × List Int × List Int × Int × Unit → Tree (Exit × St) := fun (lost, rs, ss, fs, pls, i, own, d, j, ()) => (.leaf (.exit 4, L_sts24_0.st noU (lost, rs, ss, fs, pls, i, own, ())))
def R_sts24 : LRun := runOf 213 L_sts24 (fun x => x) (inv_sts24) (O_sts24)
theorem K_sts24 : LoopOk P [] 213 none noU C_sts24 (R_sts24) := by
  refine loop_of hm (cx := []) [] (xl := X_sts24) (α := List Int × List (List Int × List (Int × (Int × (Int × V)))) × List (List Int) × List (List Int) × List (List (List Int)) × Int × List Int × List Int × Int × Unit) (fun x => x) (fun (lost, rs, ss, fs, pls, i, own, d, j, ()) => ((d.length : Int) - j).toNat) (fun _ => rfl) (by kernel_rfl) (by kernel_rfl) ?_ (by kernel_rfl) trivial ?_
  · intro e S L' h
    unfold X_sts24 at h
    split at h <;> first | (cases h; done) | (cases h; kernel_rfl) | (rcases bif_some h with h | h <;> cases h <;> kernel_rfl)
  · rintro ⟨lost, rs, ss, fs, pls, i, own, d, j, ⟨⟩⟩ hinv Q hQ
    refine hold_of_eq (B_sts24 lost rs ss fs pls i own d j) ?_

    obtain ⟨h0, h1, h2⟩ := hinv
    rw [W_id (n := j + 1) (by omega) (by omega)]
    refine ⟨fun c1 => ?_, fun c1 => hQ⟩
    have d1 : j < d.length := of_decide_eq_true c1
    have hm : (((d.set j.toNat (IntKind.wrap IntKind.i64 (d.getD j.toNat 0 + 1))).length : Int) - (j + 1)).toNat < ((d.length : Int) - j).toNat := by rw [List.length_set]; omega
    exact ⟨⟨h0, d1⟩, by omega, ⟨h0, d1⟩, by omega, ⟨⟨by omega, by rw [List.length_set]; omega, by rw [List.length_set]; exact h2⟩, hm⟩, hQ⟩
def L_sts2 : Lay := { slots := [(3, .val tIs), (17, .row 27 (.pair tIs (.sl (.pair tI (.pair tI (.pair tI tV)))))), (18, .row 22 tIs), (19, .row 22 tIs), (20, .row 44 (.sl tIs)), (21, .val tI)] }
def L_sts2_0 : Lay := { slots := [(12, .val .bool)] }
def L_sts2_1 : Lay := { slots := [] }
def X_sts2 : Exit → St → Option Lay
  | .ret, _ => some L_sts2_0
  | .exit 2, _ => some L_sts2_1
  | _, _ => none
abbrev C_sts2 : Code := loopC (bodyOf Try.f11) 2
theorem B_sts2 (lost : List Int) (rs : List (List Int × List (Int × (Int × (Int × V))))) (ss fs : List (List Int)) (pls : List (List (List Int))) (i : Int) : loopBodyA (P := P) [c_OwnInts.gc, c_StepW.gc, c_rStep.gc, c_Follow.gc, c_rFollow.gc, c_SameIntsX.gc] (lpOf [(4, R_sts24)]) [] 213 noU (inner C_sts2) L_sts2 X_sts2 (α := List Int × List (List Int × List (Int × (Int × (Int × V)))) × List (List Int) × List (List Int) × List (List (List Int)) × Int × Unit) (fun x => x) (fun x => x) (lost, rs, ss, fs, pls, i, ()) =
  Tree.cond (decide (i < (3 : Int)))
  (Tree.need ((0 : Int) ≤ i ∧ i < (↑(List.length ss) : Int))
    (Tree.need (Int.toNat i < List.length ss)
      (Tree.need (List.length (List.getD ss (Int.toNat i) []) ≤ (1000 : Nat))
        (Tree.need ((0 : Int) ≤ i ∧ i < (↑(List.length rs) : Int))
          (Tree.need (Int.toNat i < List.length rs)
            (Tree.need ((0 : Int) ≤ i ∧ i < (↑(List.length fs) : Int))
              (Tree.need (Int.toNat i < List.length fs)
                (Tree.need ((↑(List.length lost) : Int) < (2 : Int) ^ (62 : Nat))
                  (Tree.need ((0 : Int) ≤ i ∧ i < (↑(List.length rs) : Int))
                    (Tree.need (Int.toNat i < List.length rs)
                      (Tree.need ((0 : Int) ≤ i ∧ i < (↑(List.length ss) : Int))
                        (Tree.need (Int.toNat i < List.length ss)
                          (Tree.need ((0 : Int) ≤ i ∧ i < (↑(List.length fs) : Int)) (Tree.need (Int.toNat i < List.length fs) (Tree.need ((↑(List.length (List.getD ss (Int.toNat i) [])) : Int) < (2 : Int) ^ (62 : Nat) ∧ (↑(List.length (List.getD fs (Int.toNat i) [])) : Int) ≤ (9223372036854775807 : Int) ∧ (↑(List.length lost) : Int) < (2 : Int) ^ (62 : Nat)) (Tree.need ((0 : Int) ≤ i ∧ i < (↑(List.length rs) : Int)) (Tree.need (Int.toNat i < List.length rs) (Tree.need ((0 : Int) ≤ i ∧ i < (↑(List.length pls) : Int)) (Tree.need (Int.toNat i < List.length pls) (Tree.need ((↑(List.length (List.getD pls (Int.toNat i) [])) : Int) < (2 : Int) ^ (62 : Nat)) (Tree.need ((0 : Int) ≤ i ∧ i < (↑(List.length rs) : Int)) (Tree.need (Int.toNat i < List.length rs) (Tree.need ((0 : Int) ≤ i ∧ i < (↑(List.length ss) : Int)) (Tree.need (Int.toNat i < List.length ss) (Tree.need ((0 : Int) ≤ i ∧ i < (↑(List.length pls) : Int)) (Tree.need (Int.toNat i < List.length pls) (Tree.need ((↑(List.length (List.getD ss (Int.toNat i) [])) : Int) < (2 : Int) ^ (62 : Nat) ∧ (↑(List.length (List.getD pls (Int.toNat i) [])) : Int) < (2 : Int) ^ (62 : Nat) ∧ ∀ (m : List Int), m ∈ List.getD pls (Int.toNat i) [] → (↑(List.length m) : Int) ≤ (9223372036854775807 : Int)) (Tree.need ((↑(List.length (stepS (List.getD rs (Int.toNat i) ([], [])) (List.getD ss (Int.toNat i) []) (List.getD fs (Int.toNat i) []) lost).fst) : Int) < (2 : Int) ^ (62 : Nat)) (Tree.cond (!decide ((stepS (List.getD rs (Int.toNat i) ([], [])) (List.getD ss (Int.toNat i) []) (List.getD fs (Int.toNat i) []) lost).fst = (stepS (List.getD rs (Int.toNat i) ([], [])) (List.getD ss (Int.toNat i) []) (List.getD fs (Int.toNat i) []) lost).fst)) (Tree.leaf (Sum.inr (Exit.ret, Lay.st L_sts2_0 noU (false, PUnit.unit)))) (Tree.cond ((stepS (List.getD rs (Int.toNat i) ([], [])) (List.getD ss (Int.toNat i) []) (List.getD fs (Int.toNat i) []) lost).snd != (stepS (List.getD rs (Int.toNat i) ([], [])) (List.getD ss (Int.toNat i) []) (List.getD fs (Int.toNat i) []) lost).snd) (Tree.leaf (Sum.inr (Exit.ret, Lay.st L_sts2_0 noU (false, PUnit.unit)))) (Tree.cond ((followS (List.getD rs (Int.toNat i) ([], [])) (List.getD ss (Int.toNat i) []) (List.getD pls (Int.toNat i) [])).fst != (followS (List.getD rs (Int.toNat i) ([], [])) (List.getD ss (Int.toNat i) []) (List.getD pls (Int.toNat i) [])).fst) (Tree.leaf (Sum.inr (Exit.ret, Lay.st L_sts2_0 noU (false, PUnit.unit)))) (Tree.need ((↑(List.length (followS (List.getD rs (Int.toNat i) ([], [])) (List.getD ss (Int.toNat i) []) (List.getD pls (Int.toNat i) [])).snd.fst) : Int) < (2 : Int) ^ (62 : Nat)) (Tree.cond (!decide ((followS (List.getD rs (Int.toNat i) ([], [])) (List.getD ss (Int.toNat i) []) (List.getD pls (Int.toNat i) [])).snd.fst = (followS (List.getD rs (Int.toNat i) ([], [])) (List.getD ss (Int.toNat i) []) (List.getD pls (Int.toNat i) [])).snd.fst)) (Tree.leaf (Sum.inr (Exit.ret, Lay.st L_sts2_0 noU (false, PUnit.unit)))) (Tree.cond ((followS (List.getD rs (Int.toNat i) ([], [])) (List.getD ss (Int.toNat i) []) (List.getD pls (Int.toNat i) [])).snd.snd != (followS (List.getD rs (Int.toNat i) ([], [])) (List.getD ss (Int.toNat i) []) (List.getD pls (Int.toNat i) [])).snd.snd) (Tree.leaf (Sum.inr (Exit.ret, Lay.st L_sts2_0 noU (false, PUnit.unit)))) (Tree.need (inv_sts24 (lost, rs, ss, fs, pls, i, List.getD ss (Int.toNat i) [], (followS (List.getD rs (Int.toNat i) ([], [])) (List.getD ss (Int.toNat i) []) (List.getD pls (Int.toNat i) [])).snd.fst, (0 : Int), ())) (Tree.need ((0 : Int) ≤ i ∧ i < (↑(List.length ss) : Int)) (Tree.need (Int.toNat i < List.length ss) (Tree.need ((↑(List.length (List.getD ss (Int.toNat i) [])) : Int) < (2 : Int) ^ (62 : Nat)) (Tree.cond (!decide (List.getD ss (Int.toNat i) [] = List.getD ss (Int.toNat i) [])) (Tree.leaf (Sum.inr (Exit.ret, Lay.st L_sts2_0 noU (false, PUnit.unit)))) (Tree.leaf (Sum.inl (lost, rs, ss, fs, pls, IntKind.wrap IntKind.i64 (i + (1 : Int)), PUnit.unit))))))))))))))))))))))))))))))))))))))))))
  (Tree.leaf (Sum.inr (Exit.exit (2 : Nat), Lay.st L_sts2_1 noU PUnit.unit))) := by kernel_rfl

def inv_sts2 : List Int × List (List Int × List (Int × (Int × (Int × V)))) × List (List Int) × List (List Int) × List (List (List Int)) × Int × Unit → Prop := fun (lost, rs, ss, fs, pls, i, ()) => 0 ≤ i ∧ i ≤ 3 ∧ rs.length = 3 ∧ ss.length = 3 ∧ fs.length = 3 ∧ pls.length = 3 ∧ (lost.length : Int) < 2 ^ 62 ∧ (∀ x ∈ ss, x.length ≤ 1000) ∧ (∀ x ∈ fs, (x.length : Int) < 2 ^ 62) ∧ ∀ q ∈ pls, (q.length : Int) < 2 ^ 62 ∧ ∀ z ∈ q, (z.length : Int) ≤ 9223372036854775807
def O_sts2 : List Int × List (List Int × List (Int × (Int × (Int × V)))) × List (List Int) × List (List Int) × List (List (List Int)) × Int × Unit → Tree (Exit × St) := fun (lost, rs, ss, fs, pls, i, ()) => (.leaf (.exit 2, L_sts2_1.st noU ()))
def R_sts2 : LRun := runOf 213 L_sts2 (fun x => x) (inv_sts2) (O_sts2)
theorem K_sts2 : LoopOk P [] 213 none noU C_sts2 (R_sts2) := by
  refine loop_of hm (cx := [c_OwnInts.gc, c_StepW.gc, c_rStep.gc, c_Follow.gc, c_rFollow.gc, c_SameIntsX.gc]) [(4, R_sts24)] (xl := X_sts2) (α := List Int × List (List Int × List (Int × (Int × (Int × V)))) × List (List Int) × List (List Int) × List (List (List Int)) × Int × Unit) (fun x => x) (fun (lost, rs, ss, fs, pls, i, ()) => (3 - i).toNat) (fun _ => rfl) (by kernel_rfl) (by kernel_rfl) ?_ (by kernel_rfl) ⟨K_sts24, trivial⟩ ?_
  · intro e S L' h
    unfold X_sts2 at h
    split at h <;> first | (cases h; done) | (cases h; kernel_rfl) | (rcases bif_some h with h | h <;> cases h <;> kernel_rfl)
  · rintro ⟨lost, rs, ss, fs, pls, i, ⟨⟩⟩ hinv Q hQ
    refine hold_of_eq (B_sts2 lost rs ss fs pls i) ?_

    obtain ⟨h0, h1, h2, h3, h4, h5, h6, h7, h8, h9⟩ := hinv
    rw [W_id (n := i + 1) (by omega) (by omega)]
    have hQ' : Q (.exit 2, L_sts2_1.st noU ()) := hQ
    refine ⟨fun c1 => ?_, fun c1 => hQ'⟩
    have d1 : i < 3 := of_decide_eq_true c1
    have hm : (3 - (i + 1)).toNat < (3 - i).toNat := by omega
    have n1 : 0 ≤ i ∧ i < (rs.length : Int) := by omega
    have n2 : i.toNat < rs.length := by omega
    have n3 : 0 ≤ i ∧ i < (ss.length : Int) := by omega
    have n4 : i.toNat < ss.length := by omega
    have n5 : 0 ≤ i ∧ i < (fs.length : Int) := by omega
    have n6 : i.toNat < fs.length := by omega
    have n7 : 0 ≤ i ∧ i < (pls.length : Int) := by omega
    have n8 : i.toNat < pls.length := by omega
    have b1 := h7 _ (getD_mem (d := ([] : List Int)) n4)
    have b2 := h8 _ (getD_mem (d := ([] : List Int)) n6)
    have b3 := h9 _ (getD_mem (d := ([] : List (List Int))) n8)
    have b1' : ((ss.getD i.toNat []).length : Int) < 2 ^ 62 := by omega
    have b4 := stepS_len (rs.getD i.toNat ([], [])) (ss.getD i.toNat []) (fs.getD i.toNat []) lost
    have b5 := followS_len (rs.getD i.toNat ([], [])) (ss.getD i.toNat []) (pls.getD i.toNat [])
    refine ⟨n3, n4, b1, n1, n2, n5, n6, h6, n1, n2, n3, n4, n5, n6, ⟨b1', by omega, h6⟩, n1, n2, n7, n8, b3.1, n1, n2, n3, n4, n7, n8, ⟨b1', b3.1, b3.2⟩, by omega, fun c2 => ?_, fun c2 => ⟨fun c3 => ?_, fun c3 => ⟨fun c4 => ?_, fun c4 => ⟨by omega, fun c5 => ?_, fun c5 => ⟨fun c6 => ?_, fun c6 => ⟨⟨by decide, by omega, by omega⟩, n3, n4, b1', fun c7 => ?_, fun c7 => ?_⟩⟩⟩⟩⟩⟩
    · simp at c2
    · simp at c3
    · simp at c4
    · simp at c5
    · simp at c6
    · simp at c7
    · exact ⟨⟨⟨by omega, by omega, h2, h3, h4, h5, h6, h7, h8, h9⟩, hm⟩, hQ'⟩
theorem T_RigSteps (s0_0 : List Int) (s0_1 : List (Int × (Int × (Int × V)))) (s m lost : List Int) (plan : List (List Int)) (s5 : List Int) : fnTree (P := P) [c_BigRig.gc, c_NewRing.gc, c_RigOf.gc, c_Places.gc, c_Move.gc, c_awake.gc] (lpOf [(0, R_sts0), (2, R_sts2)]) Try.f11 (encL 0 [.agg (.pair tIs (.sl (.pair tI (.pair tI (.pair tI tV))))), .val tIs, .val tIs, .val tIs, .val (.sl tIs), .val tIs] ((s0_0, s0_1), s, m, lost, plan, s5, ())) =
  Tree.cond (decide ((↑(List.length s0_0) : Int) > (6 : Int)) || decide ((↑(List.length s0_1) : Int) > (30 : Int))) (Tree.leaf (SV.bool true)) (Tree.cond (decide ((↑(List.length s) : Int) > (8 : Int))) (Tree.leaf (SV.bool true)) (Tree.cond (decide ((↑(List.length m) : Int) > (8 : Int))) (Tree.leaf (SV.bool true)) (Tree.cond (decide ((↑(List.length lost) : Int) > (8 : Int))) (Tree.leaf (SV.bool true)) (Tree.cond (decide ((↑(List.length plan) : Int) > (8 : Int))) (Tree.leaf (SV.bool true)) (Tree.need ((0 : Int) ≤ (0 : Int) ∧ (0 : Int) ≤ (500000000 : Int)) (Tree.need (inv_sts0 (s, m, lost, plan, (), (), (), [], (0 : Int), s0_0, s0_1, (kRig s5 (0 : Int)).fst, (kRig s5 (0 : Int)).snd, s5, kRigK s5 (0 : Int), ())) (Tree.need (KRig (kRig s5 (0 : Int)) ∧ (0 : Int) ≤ kRigK s5 (0 : Int) + ((6 : Int) - (0 : Int)) * (↑(List.length (kRig s5 (0 : Int)).fst) : Int) ∧ kRigK s5 (0 : Int) + ((6 : Int) - (0 : Int)) * (↑(List.length (kRig s5 (0 : Int)).fst) : Int) ≤ (500000000 : Int)) (Tree.need (KRig (kRig s5 (0 : Int)) ∧ (0 : Int) ≤ kPlcK s5 (kRig s5 (0 : Int)) (kRigK s5 (0 : Int) + ((6 : Int) - (0 : Int)) * (↑(List.length (kRig s5 (0 : Int)).fst) : Int)) ∧ kPlcK s5 (kRig s5 (0 : Int)) (kRigK s5 (0 : Int) + ((6 : Int) - (0 : Int)) * (↑(List.length (kRig s5 (0 : Int)).fst) : Int)) ≤ (500000000 : Int)) (Tree.need ((0 : Int) ≤ (0 : Int) ∧ (0 : Int) < (↑(List.length (mvA [] s5 (List.length (kRig s5 (0 : Int)).fst) (Int.toNat ((6 : Int) - (0 : Int))) (kRigK s5 (0 : Int)))) : Int)) (Tree.need ((0 : Int) ≤ (1 : Int) ∧ (1 : Int) < (↑(List.length (mvA [] s5 (List.length (kRig s5 (0 : Int)).fst) (Int.toNat ((6 : Int) - (0 : Int))) (kRigK s5 (0 : Int)))) : Int)) (Tree.need (inv_sts2 (lost, [(s0_0, s0_1), kRig s5 (0 : Int), kRig s5 (0 : Int)], [s, kPlc s5 (kRig s5 (0 : Int)) (kRigK s5 (0 : Int) + ((6 : Int) - (0 : Int)) * (↑(List.length (kRig s5 (0 : Int)).fst) : Int)), kPlc s5 (kRig s5 (0 : Int)) (kPlcK s5 (kRig s5 (0 : Int)) (kRigK s5 (0 : Int) + ((6 : Int) - (0 : Int)) * (↑(List.length (kRig s5 (0 : Int)).fst) : Int)))], [m, List.getD (mvA [] s5 (List.length (kRig s5 (0 : Int)).fst) (Int.toNat ((6 : Int) - (0 : Int))) (kRigK s5 (0 : Int))) (Int.toNat (0 : Int)) [], List.getD (mvA [] s5 (List.length (kRig s5 (0 : Int)).fst) (Int.toNat ((6 : Int) - (0 : Int))) (kRigK s5 (0 : Int))) (Int.toNat (1 : Int)) []], [plan, mvA [] s5 (List.length (kRig s5 (0 : Int)).fst) (Int.toNat ((6 : Int) - (0 : Int))) (kRigK s5 (0 : Int)), plan], (0 : Int), ())) (Tree.leaf (SV.bool true))))))))))))) := by kernel_rfl

def c_RigSteps : PC P := PC.of (α := (List Int × List (Int × (Int × (Int × V)))) × List Int × List Int × List Int × List (List Int) × List Int × Unit) 11 [.agg (.pair tIs (.sl (.pair tI (.pair tI (.pair tI tV))))), .val tIs, .val tIs, .val tIs, .val (.sl tIs), .val tIs] (fun x => x) (fun x => x) (fun _ => rfl)
  (fun x => some (∀ q ∈ x.2.2.2.2.1, (q.length : Int) ≤ 9223372036854775807))
  (fun x => .bool true) (by kernel_rfl) (by
    rintro ⟨⟨s0_0, s0_1⟩, s, m, lost, plan, s5, ⟨⟩⟩ hp
    refine fn_of hm (by kernel_rfl) (by kernel_rfl) (T_RigSteps s0_0 s0_1 s m lost plan s5) ⟨K_sts0, K_sts2, trivial⟩ ?_

    try dsimp only at hp
    try dsimp only
    refine ⟨fun c1 => rfl, fun c1 => ⟨fun c2 => rfl, fun c2 => ⟨fun c3 => rfl, fun c3 => ⟨fun c4 => rfl, fun c4 => ⟨fun c5 => rfl, fun c5 => ?_⟩⟩⟩⟩⟩
    have hp' : ∀ q ∈ plan, (q.length : Int) ≤ 9223372036854775807 := hp
    have d2 := of_decide_eq_false c2
    have d3 := of_decide_eq_false c3
    have d4 := of_decide_eq_false c4
    have d5 := of_decide_eq_false c5
    obtain ⟨hk, hk1, hk2⟩ := kRig_ok (l := s5) (k := 0) (by decide)
    have l2 := hk.l2
    have l3 := hk.l3
    generalize kRigK s5 0 = k0 at *
    generalize kRig s5 0 = r at *
    obtain ⟨v, v1, v2⟩ := kPlc_ok (l := s5) hk (k := k0 + (6 - 0) * (r.1.length : Int)) (by omega)
    generalize kPlcK s5 r (k0 + (6 - 0) * (r.1.length : Int)) = k1 at *
    generalize kPlc s5 r (k0 + (6 - 0) * (r.1.length : Int)) = t at *
    obtain ⟨v', v1', v2'⟩ := kPlc_ok (l := s5) hk (k := k1) (by omega)
    generalize kPlc s5 r k1 = t' at *
    have hml : (mvA [] s5 r.1.length (Int.toNat (6 - 0)) k0).length = 6 := by
      unfold mvA
      rw [List.nil_append, mvL_len]; rfl
    have hmm : ∀ q ∈ mvA [] s5 r.1.length (Int.toNat (6 - 0)) k0, q.length = r.1.length := fun q hq => by
      unfold mvA at hq
      rw [List.nil_append] at hq
      exact mvL_mem q hq
    generalize mvA [] s5 r.1.length (Int.toNat (6 - 0)) k0 = mvs at *
    have sl := v.sl
    have sl' := v'.sl
    have m0 := hmm _ (getD_mem (d := ([] : List Int)) (show 0 < mvs.length by omega))
    have m1 := hmm _ (getD_mem (d := ([] : List Int)) (show 1 < mvs.length by omega))
    refine ⟨⟨by decide, by decide⟩, ⟨by decide, by decide, by omega, by omega, hk1, by omega, rfl⟩, ⟨hk, by omega, by omega⟩, ⟨hk, by omega, by omega⟩, ⟨by decide, by omega⟩, ⟨by decide, by omega⟩, ⟨by decide, by decide, rfl, rfl, rfl, rfl, by omega, fun x hx => ?_, fun x hx => ?_, fun x hx => ?_⟩, rfl⟩
    · rcases List.mem_cons.1 hx with rfl | hx
      · omega
      rcases List.mem_cons.1 hx with rfl | hx
      · omega
      rw [List.mem_singleton] at hx
      rw [hx]; omega
    · rcases List.mem_cons.1 hx with rfl | hx
      · omega
      rcases List.mem_cons.1 hx with rfl | hx
      · have : (mvs.getD 0 []).length = r.1.length := m0
        show ((mvs.getD 0 []).length : Int) < 2 ^ 62
        omega
      rw [List.mem_singleton] at hx
      rw [hx]
      show ((mvs.getD 1 []).length : Int) < 2 ^ 62
      omega
    · have hmv : (mvs.length : Int) < 2 ^ 62 ∧ ∀ z ∈ mvs, (z.length : Int) ≤ 9223372036854775807 := ⟨by omega, fun z hz => by have := hmm z hz; omega⟩
      rcases List.mem_cons.1 hx with rfl | hx
      · exact ⟨by omega, hp'⟩
      rcases List.mem_cons.1 hx with rfl | hx
      · exact hmv
      rw [List.mem_singleton] at hx
      rw [hx]
      exact ⟨by omega, hp'⟩)

end
end Go.MR
