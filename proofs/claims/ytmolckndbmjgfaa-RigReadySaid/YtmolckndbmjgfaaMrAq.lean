/- RigTicks and RigReady. -/
import Derived.Test.YtmolckndbmjgfaaMrAp
import Derived.Test.YtmolckndbmjgfaaMrV
namespace Go.MR
open Go Go.Sx Go.Proofs
set_option linter.unusedVariables false
set_option linter.unusedSimpArgs false
noncomputable section
def wdR : List Int → Int → Int
  | p :: l, n => wdR l (IntKind.wrap IntKind.i64 (n * (p % 100)))
  | [], n => n
theorem wdR_step {ps : List Int} {i n : Int} (h0 : 0 ≤ i) (h : i < ps.length) : wdR (ps.drop i.toNat) n = wdR (ps.drop (i + 1).toNat) (IntKind.wrap IntKind.i64 (n * (ps.getD i.toNat 0 % 100))) := by
  rw [drop_step (0 : Int) h0 h, wdR]
theorem wdR_nil (n : Int) : wdR [] n = n := rfl
def L_wide0 : Lay := { slots := [(1, .ptr 2032 0), (3, .val tI), (4, .val tI)], boxes := [(2032, [.val tIs, .val (.sl (.pair tI (.pair tI (.pair tI tV))))])] }
def L_wide0_0 : Lay := { slots := [(1, .ptr 2032 0), (3, .val tI)], boxes := [(2032, [.val tIs, .val (.sl (.pair tI (.pair tI (.pair tI tV))))])] }
def X_wide0 : Exit → St → Option Lay
  | .exit 0, _ => some L_wide0_0
  | _, _ => none
abbrev C_wide0 : Code := loopC (bodyOf Try.f42) 0
theorem B_wide0 (n i : Int) (ps : List Int) (bs : List (Int × (Int × (Int × V)))) : loopBodyA (P := P) [c_Mod.gc] (lpOf []) [] 32 noU (inner C_wide0) L_wide0 X_wide0 (α := Unit × Int × Int × List Int × List (Int × (Int × (Int × V))) × Unit) (fun x => x) (fun x => x) ((), n, i, ps, bs, ()) =
  Tree.cond (decide (i < (↑(List.length ps) : Int))) (Tree.need ((0 : Int) ≤ i ∧ i < (↑(List.length ps) : Int)) (Tree.need ((0 : Int) < (100 : Int) ∧ R64 (100 : Int)) (Tree.leaf (Sum.inl (PUnit.unit, IntKind.wrap IntKind.i64 (n * (List.getD ps (Int.toNat i) (0 : Int) % (100 : Int))), IntKind.wrap IntKind.i64 (i + (1 : Int)), ps, bs, PUnit.unit))))) (Tree.leaf (Sum.inr (Exit.exit (0 : Nat), Lay.st L_wide0_0 noU (PUnit.unit, n, ps, bs, PUnit.unit)))) := by kernel_rfl
def inv_wide0 : Unit × Int × Int × List Int × List (Int × (Int × (Int × V))) × Unit → Prop := fun ((), n, i, ps, bs, ()) => 0 ≤ i ∧ i ≤ ps.length ∧ (ps.length : Int) ≤ 9223372036854775807
def O_wide0 : Unit × Int × Int × List Int × List (Int × (Int × (Int × V))) × Unit → Tree (Exit × St) := fun ((), n, i, ps, bs, ()) => (.leaf (.exit 0, L_wide0_0.st noU ((), (wdR (ps.drop i.toNat) n), ps, bs, ())))
def R_wide0 : LRun := runOf 32 L_wide0 (fun x => x) (inv_wide0) (O_wide0)
theorem K_wide0 : LoopOk P [] 32 none noU C_wide0 (R_wide0) := by
  refine loop_of hm (cx := [c_Mod.gc]) [] (xl := X_wide0) (α := Unit × Int × Int × List Int × List (Int × (Int × (Int × V))) × Unit) (fun x => x) (fun ((), n, i, ps, bs, ()) => ((ps.length : Int) - i).toNat) (fun _ => rfl) (by kernel_rfl) (by kernel_rfl) ?_ (by kernel_rfl) trivial ?_
  · intro e S L' h
    unfold X_wide0 at h
    split at h <;> first | (cases h; done) | (cases h; kernel_rfl) | (rcases bif_some h with h | h <;> cases h <;> kernel_rfl)
  · rintro ⟨⟨⟩, n, i, ps, bs, ⟨⟩⟩ hinv Q hQ
    refine hold_of_eq (B_wide0 n i ps bs) ?_
    obtain ⟨h0, h1, h2⟩ := hinv
    have hQ' : Q (.exit 0, L_wide0_0.st noU ((), wdR (ps.drop i.toNat) n, ps, bs, ())) := hQ
    refine ⟨fun c1 => ?_, fun c1 => ?_⟩
    · have d1 : i < ps.length := of_decide_eq_true c1
      rw [W_id (n := i + 1) (by omega) (by omega)]
      rw [wdR_step h0 d1] at hQ'
      exact ⟨⟨h0, d1⟩, ⟨by decide, by decide, by decide⟩, ⟨⟨by omega, by omega, h2⟩, by show ((ps.length : Int) - (i + 1)).toNat < ((ps.length : Int) - i).toNat; omega⟩, hQ'⟩
    · rw [drop_end (of_decide_eq_false c1), wdR_nil] at hQ'
      exact hQ'
theorem T_Wide (s0_0 : List Int) (s0_1 : List (Int × (Int × (Int × V)))) : fnTree (P := P) [c_BigRig.gc] (lpOf [(0, R_wide0)]) Try.f42 (encL 0 [.agg (.pair tIs (.sl (.pair tI (.pair tI (.pair tI tV)))))] ((s0_0, s0_1), ())) =
  Tree.need (inv_wide0 ((), (1 : Int), (0 : Int), s0_0, s0_1, ())) (Tree.cond (decide ((↑(List.length s0_0) : Int) > (6 : Int)) || decide ((↑(List.length s0_1) : Int) > (30 : Int))) (Tree.leaf (SV.bool true)) (Tree.cond (decide (wdR (List.drop (Int.toNat (0 : Int)) s0_0) (1 : Int) > (80 : Int))) (Tree.leaf (SV.bool true)) (Tree.leaf (SV.bool (decide ((↑(List.length s0_0) : Int) > (3 : Int))))))) := by kernel_rfl
def c_Wide : PC P := PC.of (α := (List Int × List (Int × (Int × (Int × V)))) × Unit) 42 [.agg (.pair tIs (.sl (.pair tI (.pair tI (.pair tI tV)))))] (fun x => x) (fun x => x) (fun _ => rfl)
  (fun x => some ((x.1.1.length : Int) ≤ 9223372036854775807))
  (fun x => .bool ((decide ((x.1.1.length : Int) > 6) || decide ((x.1.2.length : Int) > 30)) || decide (wdR x.1.1 1 > 80) || decide ((x.1.1.length : Int) > 3))) (by kernel_rfl) (by
    rintro ⟨⟨s0_0, s0_1⟩, ⟨⟩⟩ hp
    refine fn_of hm (by kernel_rfl) (by kernel_rfl) (T_Wide s0_0 s0_1) ⟨K_wide0, trivial⟩ ?_
    try dsimp only at hp
    try dsimp only
    have hp' : (s0_0.length : Int) ≤ 9223372036854775807 := hp
    refine ⟨⟨by decide, by omega, hp'⟩, fun c1 => ?_, fun c1 => ⟨fun c2 => ?_, fun c2 => ?_⟩⟩
    · exact congrArg SV.bool (by rw [show (decide ((s0_0.length : Int) > 6) || decide ((s0_1.length : Int) > 30)) = true from c1, Bool.true_or, Bool.true_or])
    · exact congrArg SV.bool (by rw [show (decide ((s0_0.length : Int) > 6) || decide ((s0_1.length : Int) > 30)) = false from c1, show decide (wdR s0_0 1 > 80) = true from c2, Bool.false_or, Bool.true_or])
    · exact congrArg SV.bool (by rw [show (decide ((s0_0.length : Int) > 6) || decide ((s0_1.length : Int) > 30)) = false from c1, show decide (wdR s0_0 1 > 80) = false from c2, Bool.false_or, Bool.false_or]))
def L_rrdL : Lay := { slots := [(11, .row 27 (.pair tIs (.sl (.pair tI (.pair tI (.pair tI tV)))))), (12, .row 30 (.sl tPart)), (13, .row 3 tI), (14, .val tI)] }
def L_rrdL_0 : Lay := { slots := [(8, .val .bool)] }
def L_rrdL_1 : Lay := { slots := [] }
def X_rrdL : Exit → St → Option Lay
  | .ret, _ => some L_rrdL_0
  | .exit 0, _ => some L_rrdL_1
  | _, _ => none
abbrev C_rrdL : Code := loopC (bodyOf Try.f7) 0
theorem B_rrdL (rs : List (List Int × List (Int × (Int × (Int × V))))) (gs : List (List (Int × Int))) (ls : List Int) (k : Int) : loopBodyA (P := P) [c_Ready.gc, c_rReady.gc] (lpOf []) [] 97 noU (inner C_rrdL) L_rrdL X_rrdL (α := List (List Int × List (Int × (Int × (Int × V)))) × List (List (Int × Int)) × List Int × Int × Unit) (fun x => x) (fun x => x) (rs, gs, ls, k, ()) =
  Tree.cond (decide (k < (2 : Int))) (Tree.need ((0 : Int) ≤ k ∧ k < (↑(List.length rs) : Int)) (Tree.need (Int.toNat k < List.length rs) (Tree.need ((0 : Int) ≤ k ∧ k < (↑(List.length gs) : Int)) (Tree.need (Int.toNat k < List.length gs) (Tree.need ((0 : Int) ≤ k ∧ k < (↑(List.length ls) : Int)) (Tree.need (Int.toNat k < List.length ls) (Tree.need ((0 : Int) ≤ k ∧ k < (↑(List.length rs) : Int)) (Tree.need (Int.toNat k < List.length rs) (Tree.need ((0 : Int) ≤ k ∧ k < (↑(List.length gs) : Int)) (Tree.need (Int.toNat k < List.length gs) (Tree.need ((0 : Int) ≤ k ∧ k < (↑(List.length ls) : Int)) (Tree.need (Int.toNat k < List.length ls) (Tree.cond ((readyS (List.getD rs (Int.toNat k) ([], [])) (List.getD gs (Int.toNat k) []) (List.getD ls (Int.toNat k) (0 : Int))).fst != (readyS (List.getD rs (Int.toNat k) ([], [])) (List.getD gs (Int.toNat k) []) (List.getD ls (Int.toNat k) (0 : Int))).fst) (Tree.leaf (Sum.inr (Exit.ret, Lay.st L_rrdL_0 noU (false, PUnit.unit)))) (Tree.cond ((readyS (List.getD rs (Int.toNat k) ([], [])) (List.getD gs (Int.toNat k) []) (List.getD ls (Int.toNat k) (0 : Int))).snd.fst != (readyS (List.getD rs (Int.toNat k) ([], [])) (List.getD gs (Int.toNat k) []) (List.getD ls (Int.toNat k) (0 : Int))).snd.fst) (Tree.leaf (Sum.inr (Exit.ret, Lay.st L_rrdL_0 noU (false, PUnit.unit)))) (Tree.cond ((readyS (List.getD rs (Int.toNat k) ([], [])) (List.getD gs (Int.toNat k) []) (List.getD ls (Int.toNat k) (0 : Int))).snd.snd != (readyS (List.getD rs (Int.toNat k) ([], [])) (List.getD gs (Int.toNat k) []) (List.getD ls (Int.toNat k) (0 : Int))).snd.snd) (Tree.leaf (Sum.inr (Exit.ret, Lay.st L_rrdL_0 noU (false, PUnit.unit)))) (Tree.leaf (Sum.inl (rs, gs, ls, IntKind.wrap IntKind.i64 (k + (1 : Int)), PUnit.unit)))))))))))))))))) (Tree.leaf (Sum.inr (Exit.exit (0 : Nat), Lay.st L_rrdL_1 noU PUnit.unit))) := by kernel_rfl
def inv_rrdL : List (List Int × List (Int × (Int × (Int × V)))) × List (List (Int × Int)) × List Int × Int × Unit → Prop := fun (rs, gs, ls, k, ()) => 0 ≤ k ∧ k ≤ 2 ∧ rs.length = 2 ∧ gs.length = 2 ∧ ls.length = 2
def O_rrdL : List (List Int × List (Int × (Int × (Int × V)))) × List (List (Int × Int)) × List Int × Int × Unit → Tree (Exit × St) := fun (rs, gs, ls, k, ()) => (.leaf (.exit 0, L_rrdL_1.st noU ()))
def R_rrdL : LRun := runOf 97 L_rrdL (fun x => x) (inv_rrdL) (O_rrdL)
theorem K_rrdL : LoopOk P [] 97 none noU C_rrdL (R_rrdL) := by
  refine loop_of hm (cx := [c_Ready.gc, c_rReady.gc]) [] (xl := X_rrdL) (α := List (List Int × List (Int × (Int × (Int × V)))) × List (List (Int × Int)) × List Int × Int × Unit) (fun x => x) (fun (rs, gs, ls, k, ()) => (2 - k).toNat) (fun _ => rfl) (by kernel_rfl) (by kernel_rfl) ?_ (by kernel_rfl) trivial ?_
  · intro e S L' h
    unfold X_rrdL at h
    split at h <;> first | (cases h; done) | (cases h; kernel_rfl) | (rcases bif_some h with h | h <;> cases h <;> kernel_rfl)
  · rintro ⟨rs, gs, ls, k, ⟨⟩⟩ hinv Q hQ
    refine hold_of_eq (B_rrdL rs gs ls k) ?_
    obtain ⟨h0, h1, h2, h4, h5⟩ := hinv
    rw [W_id (n := k + 1) (by omega) (by omega)]
    refine ⟨fun c1 => ?_, fun c1 => hQ⟩
    have c1 := of_decide_eq_true c1
    have r1 : 0 ≤ k ∧ k < (rs.length : Int) := by omega
    have r2 : k.toNat < rs.length := by omega
    have g1 : 0 ≤ k ∧ k < (gs.length : Int) := by omega
    have g2 : k.toNat < gs.length := by omega
    have l1 : 0 ≤ k ∧ k < (ls.length : Int) := by omega
    have l2 : k.toNat < ls.length := by omega
    have e1 : ∀ z : Int, (z != z) = false := fun z => by simp
    simp only [e1]
    exact ⟨r1, r2, g1, g2, l1, l2, r1, r2, g1, g2, l1, l2, fun h => (by cases h), fun _ => ⟨fun h => (by cases h), fun _ => ⟨fun h => (by cases h), fun _ => ⟨⟨⟨by omega, by omega, h2, h4, h5⟩, by show (2 - (k + 1)).toNat < (2 - k).toNat; omega⟩, hQ⟩⟩⟩⟩
theorem T_RigReady (s0_0 : List Int) (s0_1 : List (Int × (Int × (Int × V)))) (s1 : List (Int × Int)) (s2 : Int) (s3 : List Int) : fnTree (P := P) [c_Wide.gc, c_NewRing.gc, c_RigOf.gc, c_Goal8.gc, c_Mod.gc, c_awake.gc] (lpOf [(0, R_rrdL)]) Try.f7 (encL 0 [.agg (.pair tIs (.sl (.pair tI (.pair tI (.pair tI tV))))), .val (.sl tPart), .val tI, .val tIs] ((s0_0, s0_1), s1, s2, s3, ())) =
  Tree.need ((↑(List.length s0_0) : Int) ≤ (9223372036854775807 : Int)) (Tree.cond (decide ((↑(List.length s0_0) : Int) > (6 : Int)) || decide ((↑(List.length s0_1) : Int) > (30 : Int)) || decide (wdR s0_0 (1 : Int) > (80 : Int)) || decide ((↑(List.length s0_0) : Int) > (3 : Int))) (Tree.leaf (SV.bool true)) (Tree.cond (decide ((↑(List.length s1) : Int) > (6 : Int))) (Tree.leaf (SV.bool true)) (Tree.need ((0 : Int) ≤ (0 : Int) ∧ (0 : Int) ≤ (500000000 : Int)) (Tree.need (KRig (kRig s3 (0 : Int)) ∧ (0 : Int) ≤ kRigK s3 (0 : Int) ∧ kRigK s3 (0 : Int) ≤ (500000000 : Int)) (Tree.need ((0 : Int) < (3 : Int) ∧ R64 (3 : Int)) (Tree.need (inv_rrdL ([(s0_0, s0_1), kRig s3 (0 : Int)], [s1, glS s3 (kRig s3 (0 : Int)).fst (kRigK s3 (0 : Int))], [s2, s2 % (3 : Int)], (0 : Int), ())) (Tree.leaf (SV.bool true)))))))) := by kernel_rfl
def c_RigReady : PC P := PC.of (α := (List Int × List (Int × (Int × (Int × V)))) × List (Int × Int) × Int × List Int × Unit) 7 [.agg (.pair tIs (.sl (.pair tI (.pair tI (.pair tI tV))))), .val (.sl tPart), .val tI, .val tIs] (fun x => x) (fun x => x) (fun _ => rfl)
  (fun x => some ((x.1.1.length : Int) ≤ 9223372036854775807))
  (fun x => .bool true) (by kernel_rfl) (by
    rintro ⟨⟨s0_0, s0_1⟩, s1, s2, s3, ⟨⟩⟩ hp
    refine fn_of hm (by kernel_rfl) (by kernel_rfl) (T_RigReady s0_0 s0_1 s1 s2 s3) ⟨K_rrdL, trivial⟩ ?_
    try dsimp only at hp
    try dsimp only
    have hp' : (s0_0.length : Int) ≤ 9223372036854775807 := hp
    obtain ⟨hk, hk1, hk2⟩ := kRig_ok (l := s3) (k := 0) (by decide)
    exact ⟨hp', fun c1 => rfl, fun c1 => ⟨fun c2 => rfl, fun c2 => ⟨⟨by decide, by decide⟩, ⟨hk, hk1, by omega⟩, ⟨by decide, by decide, by decide⟩, ⟨by decide, by decide, rfl, rfl, rfl⟩, rfl⟩⟩⟩)
end
end Go.MR
