/- RigMerges. -/
import Derived.Test.YtmolckndbmjgfaaMrBe
namespace Go.MR
open Go Go.Sx Go.Proofs
set_option linter.unusedVariables false
set_option linter.unusedSimpArgs false
noncomputable section
theorem mrgS_len (r : Rig) (s : List Int) (q : List Req) : ((mrgS r s q).1.length : Int) < 2 ^ 62 ∧ ((mrgS r s q).2.1.length : Int) < 2 ^ 62 := by
  unfold mrgS
  split
  · exact ⟨show (0 : Int) < 2 ^ 62 by decide, show (0 : Int) < 2 ^ 62 by decide⟩
  · rename_i h
    have hE : stateS r s = 0 ∧ ¬ q.length > 12 := by
      unfold mrgErr at h
      split at h
      · rename_i h1; exact absurd h1 h
      split at h
      · simp at h
      · rename_i h1 h2
        exact ⟨by simpa using h1, h2⟩
    obtain ⟨a1, a2, _⟩ := stateS_in (r := r) (.inl hE.1)
    obtain ⟨k1, k2, _⟩ := checkS_ok a1
    have := ordS_len q
    obtain ⟨g1, g2, g3⟩ := mgS_len (r := r) (s := s) (q := q) (ordS q) (List.replicate s.length 0, List.replicate s.length false, [])
    dsimp only at g1 g3
    rw [List.length_nil] at g3
    rw [List.length_replicate] at g1
    dsimp only
    rw [isO_len]
    unfold mg0
    exact ⟨by omega, by omega⟩
def reqM (n : Int) (l : List Req) : List Req := l.map (fun x => (x.1 % n, IntKind.wrap IntKind.i64 (x.2.1 % 3 - 1), x.2.2 % 4))
theorem reqM_step {n i : Int} {l : List Req} (h0 : 0 ≤ i) (h : i < l.length) : reqM n (l.drop i.toNat) = ((l.getD i.toNat zReq).1 % n, IntKind.wrap IntKind.i64 ((l.getD i.toNat zReq).2.1 % 3 - 1), (l.getD i.toNat zReq).2.2 % 4) :: reqM n (l.drop (i + 1).toNat) := by
  rw [drop_step zReq h0 h, reqM, List.map_cons]; rfl
theorem reqM_len (n : Int) (l : List Req) : (reqM n l).length = l.length := List.length_map _
def L_rmg0L : Lay := { slots := [(1, .val tIs), (2, .val tVs), (4, .ptr 5142 0), (9, .ptr 38142 0), (10, .ptr 11142 0), (11, .row 99 tV), (12, .val tI)], boxes := [(5142, [.val tIs, .val (.sl (.pair tI (.pair tI (.pair tI tV))))]), (11142, [.val tIs, .val (.sl (.pair tI (.pair tI (.pair tI tV))))]), (38142, [.val tIs, .val tI])] }
def L_rmg0L_0 : Lay := { slots := [(1, .val tIs), (2, .val tVs), (4, .ptr 5142 0), (9, .ptr 38142 0), (10, .ptr 11142 0), (11, .row 99 tV)], boxes := [(5142, [.val tIs, .val (.sl (.pair tI (.pair tI (.pair tI tV))))]), (11142, [.val tIs, .val (.sl (.pair tI (.pair tI (.pair tI tV))))]), (38142, [.val tIs, .val tI])] }
def X_rmg0L : Exit → St → Option Lay
  | .exit 0, _ => some L_rmg0L_0
  | _, _ => none
abbrev C_rmg0L : Code := loopC (bodyOf Try.f15) 0
theorem B_rmg0L (s : List Int) (l som : List V) (i : Int) (xps : List Int) (xbs : List (Int × (Int × (Int × V)))) (ps : List Int) (bs : List (Int × (Int × (Int × V)))) (nl : List Int) (nk : Int) : loopBodyA (P := P) [c_Mod.gc] (lpOf []) [] 142 noU (inner C_rmg0L) L_rmg0L X_rmg0L (α := List Int × List V × Unit × Unit × Unit × List V × Int × List Int × List (Int × (Int × (Int × V))) × List Int × List (Int × (Int × (Int × V))) × List Int × Int × Unit) (fun x => x) (fun x => x) (s, l, (), (), (), som, i, xps, xbs, ps, bs, nl, nk, ()) =
  Tree.cond (decide (i < (↑(List.length l) : Int))) (Tree.need ((0 : Int) ≤ i ∧ i < (↑(List.length l) : Int)) (Tree.need ((0 : Int) < (↑(List.length ps) : Int) ∧ R64 (↑(List.length ps) : Int)) (Tree.need ((0 : Int) ≤ i ∧ i < (↑(List.length l) : Int)) (Tree.need ((0 : Int) < (3 : Int) ∧ R64 (3 : Int)) (Tree.need ((0 : Int) ≤ i ∧ i < (↑(List.length l) : Int)) (Tree.need ((0 : Int) < (4 : Int) ∧ R64 (4 : Int)) (Tree.need ((List.length som + List.length [((List.getD l (Int.toNat i) ((0 : Int), (0 : Int), (0 : Int))).fst % (↑(List.length ps) : Int), IntKind.wrap IntKind.i64 ((List.getD l (Int.toNat i) ((0 : Int), (0 : Int), (0 : Int))).snd.fst % (3 : Int) - (1 : Int)), (List.getD l (Int.toNat i) ((0 : Int), (0 : Int), (0 : Int))).snd.snd % (4 : Int))]) * (24 : Nat) ≤ (140737488355328 : Nat)) (Tree.leaf (Sum.inl (s, l, PUnit.unit, PUnit.unit, PUnit.unit, som ++ [((List.getD l (Int.toNat i) ((0 : Int), (0 : Int), (0 : Int))).fst % (↑(List.length ps) : Int), IntKind.wrap IntKind.i64 ((List.getD l (Int.toNat i) ((0 : Int), (0 : Int), (0 : Int))).snd.fst % (3 : Int) - (1 : Int)), (List.getD l (Int.toNat i) ((0 : Int), (0 : Int), (0 : Int))).snd.snd % (4 : Int))], IntKind.wrap IntKind.i64 (i + (1 : Int)), xps, xbs, ps, bs, nl, nk, PUnit.unit)))))))))) (Tree.leaf (Sum.inr (Exit.exit (0 : Nat), Lay.st L_rmg0L_0 noU (s, l, PUnit.unit, PUnit.unit, PUnit.unit, som, xps, xbs, ps, bs, nl, nk, PUnit.unit)))) := by kernel_rfl
def inv_rmg0L : List Int × List V × Unit × Unit × Unit × List V × Int × List Int × List (Int × (Int × (Int × V))) × List Int × List (Int × (Int × (Int × V))) × List Int × Int × Unit → Prop := fun (s, l, (), (), (), som, i, xps, xbs, ps, bs, nl, nk, ()) => 0 ≤ i ∧ i ≤ l.length ∧ (l.length : Int) ≤ 14 ∧ (som.length : Int) ≤ i ∧ 0 < ps.length ∧ ps.length ≤ 3
def O_rmg0L : List Int × List V × Unit × Unit × Unit × List V × Int × List Int × List (Int × (Int × (Int × V))) × List Int × List (Int × (Int × (Int × V))) × List Int × Int × Unit → Tree (Exit × St) := fun (s, l, (), (), (), som, i, xps, xbs, ps, bs, nl, nk, ()) => (.leaf (.exit 0, L_rmg0L_0.st noU (s, l, (), (), (), (som ++ reqM ps.length (l.drop i.toNat)), xps, xbs, ps, bs, nl, nk, ())))
def R_rmg0L : LRun := runOf 142 L_rmg0L (fun x => x) (inv_rmg0L) (O_rmg0L)
theorem K_rmg0L : LoopOk P [] 142 none noU C_rmg0L (R_rmg0L) := by
  refine loop_of hm (cx := [c_Mod.gc]) [] (xl := X_rmg0L) (α := List Int × List V × Unit × Unit × Unit × List V × Int × List Int × List (Int × (Int × (Int × V))) × List Int × List (Int × (Int × (Int × V))) × List Int × Int × Unit) (fun x => x) (fun (s, l, (), (), (), som, i, xps, xbs, ps, bs, nl, nk, ()) => ((l.length : Int) - i).toNat) (fun _ => rfl) (by kernel_rfl) (by kernel_rfl) ?_ (by kernel_rfl) trivial ?_
  · intro e S L' h
    unfold X_rmg0L at h
    split at h <;> first | (cases h; done) | (cases h; kernel_rfl) | (rcases bif_some h with h | h <;> cases h <;> kernel_rfl)
  · rintro ⟨s, l, ⟨⟩, ⟨⟩, ⟨⟩, som, i, xps, xbs, ps, bs, nl, nk, ⟨⟩⟩ hinv Q hQ
    refine hold_of_eq (B_rmg0L s l som i xps xbs ps bs nl nk) ?_
    obtain ⟨h0, h1, h2, h3, h4, h5⟩ := hinv
    rw [W_id (n := i + 1) (by omega) (by omega)]
    have hQ' : Q (.exit 0, L_rmg0L_0.st noU (s, l, (), (), (), som ++ reqM ps.length (l.drop i.toNat), xps, xbs, ps, bs, nl, nk, ())) := hQ
    refine ⟨fun c1 => ?_, fun c1 => ?_⟩
    · have d1 : i < l.length := of_decide_eq_true c1
      rw [reqM_step h0 d1, List.append_cons] at hQ'
      refine ⟨⟨h0, d1⟩, ⟨by omega, by omega, by omega⟩, ⟨h0, d1⟩, ⟨by decide, by decide, by decide⟩, ⟨h0, d1⟩, ⟨by decide, by decide, by decide⟩, ?_, ⟨⟨by omega, by omega, h2, ?_, h4, h5⟩, by show ((l.length : Int) - (i + 1)).toNat < ((l.length : Int) - i).toNat; omega⟩, hQ'⟩
      · show (som.length + 1) * 24 ≤ 140737488355328; omega
      · rw [List.length_append]; show ((som.length + 1 : Nat) : Int) ≤ i + 1; omega
    · rw [drop_end (of_decide_eq_false c1), show reqM (ps.length : Int) [] = [] from rfl, List.append_nil] at hQ'
      exact hQ'
def L_rmgL2 : Lay := { slots := [(13, .row 27 (.pair tIs (.sl (.pair tI (.pair tI (.pair tI tV)))))), (14, .row 22 tIs), (15, .row 97 tVs), (16, .val tI)] }
def L_rmgL2_0 : Lay := { slots := [(8, .val .bool)] }
def L_rmgL2_1 : Lay := { slots := [] }
def X_rmgL2 : Exit → St → Option Lay
  | .ret, _ => some L_rmgL2_0
  | .exit 2, _ => some L_rmgL2_1
  | _, _ => none
abbrev C_rmgL2 : Code := loopC (bodyOf Try.f15) 2
theorem B_rmgL2 (rs : List (List Int × List (Int × (Int × (Int × V))))) (ss : List (List Int)) (ls : List (List V)) (k : Int) : loopBodyA (P := P) [c_Merge.gc, c_rMerge.gc, c_SameInts.gc] (lpOf []) [] 142 noU (inner C_rmgL2) L_rmgL2 X_rmgL2 (α := List (List Int × List (Int × (Int × (Int × V)))) × List (List Int) × List (List V) × Int × Unit) (fun x => x) (fun x => x) (rs, ss, ls, k, ()) =
  Tree.cond (decide (k < (3 : Int))) (Tree.need ((0 : Int) ≤ k ∧ k < (↑(List.length rs) : Int)) (Tree.need (Int.toNat k < List.length rs) (Tree.need ((0 : Int) ≤ k ∧ k < (↑(List.length ss) : Int)) (Tree.need (Int.toNat k < List.length ss) (Tree.need ((0 : Int) ≤ k ∧ k < (↑(List.length ls) : Int)) (Tree.need (Int.toNat k < List.length ls) (Tree.need ((↑(List.length (List.getD ls (Int.toNat k) [])) : Int) < (2 : Int) ^ (62 : Nat)) (Tree.need ((0 : Int) ≤ k ∧ k < (↑(List.length rs) : Int)) (Tree.need (Int.toNat k < List.length rs) (Tree.need ((0 : Int) ≤ k ∧ k < (↑(List.length ss) : Int)) (Tree.need (Int.toNat k < List.length ss) (Tree.need ((0 : Int) ≤ k ∧ k < (↑(List.length ls) : Int)) (Tree.need (Int.toNat k < List.length ls) (Tree.need ((↑(List.length (List.getD ls (Int.toNat k) [])) : Int) < (2 : Int) ^ (62 : Nat) ∧ (↑(List.length (List.getD ss (Int.toNat k) [])) : Int) < (2 : Int) ^ (62 : Nat)) (Tree.need ((↑(List.length (mrgS (List.getD rs (Int.toNat k) ([], [])) (List.getD ss (Int.toNat k) []) (List.getD ls (Int.toNat k) [])).fst) : Int) < (2 : Int) ^ (62 : Nat)) (Tree.cond (!decide ((mrgS (List.getD rs (Int.toNat k) ([], [])) (List.getD ss (Int.toNat k) []) (List.getD ls (Int.toNat k) [])).fst = (rmrgS (List.getD rs (Int.toNat k) ([], [])) (List.getD ss (Int.toNat k) []) (List.getD ls (Int.toNat k) [])).fst)) (Tree.leaf (Sum.inr (Exit.ret, Lay.st L_rmgL2_0 noU (false, PUnit.unit)))) (Tree.need ((↑(List.length (mrgS (List.getD rs (Int.toNat k) ([], [])) (List.getD ss (Int.toNat k) []) (List.getD ls (Int.toNat k) [])).snd.fst) : Int) < (2 : Int) ^ (62 : Nat)) (Tree.cond (!decide ((mrgS (List.getD rs (Int.toNat k) ([], [])) (List.getD ss (Int.toNat k) []) (List.getD ls (Int.toNat k) [])).snd.fst = (rmrgS (List.getD rs (Int.toNat k) ([], [])) (List.getD ss (Int.toNat k) []) (List.getD ls (Int.toNat k) [])).snd.fst)) (Tree.leaf (Sum.inr (Exit.ret, Lay.st L_rmgL2_0 noU (false, PUnit.unit)))) (Tree.cond ((mrgS (List.getD rs (Int.toNat k) ([], [])) (List.getD ss (Int.toNat k) []) (List.getD ls (Int.toNat k) [])).snd.snd != (rmrgS (List.getD rs (Int.toNat k) ([], [])) (List.getD ss (Int.toNat k) []) (List.getD ls (Int.toNat k) [])).snd.snd) (Tree.leaf (Sum.inr (Exit.ret, Lay.st L_rmgL2_0 noU (false, PUnit.unit)))) (Tree.leaf (Sum.inl (rs, ss, ls, IntKind.wrap IntKind.i64 (k + (1 : Int)), PUnit.unit)))))))))))))))))))))) (Tree.leaf (Sum.inr (Exit.exit (2 : Nat), Lay.st L_rmgL2_1 noU PUnit.unit))) := by kernel_rfl
def inv_rmgL2 : List (List Int × List (Int × (Int × (Int × V)))) × List (List Int) × List (List V) × Int × Unit → Prop := fun (rs, ss, ls, k, ()) => 0 ≤ k ∧ k ≤ 3 ∧ rs.length = 3 ∧ ss.length = 3 ∧ ls.length = 3 ∧ (∀ x ∈ ss, (x.length : Int) < 2 ^ 62) ∧ ∀ x ∈ ls, (x.length : Int) < 2 ^ 62
def O_rmgL2 : List (List Int × List (Int × (Int × (Int × V)))) × List (List Int) × List (List V) × Int × Unit → Tree (Exit × St) := fun (rs, ss, ls, k, ()) => (.leaf (.exit 2, L_rmgL2_1.st noU ()))
def R_rmgL2 : LRun := runOf 142 L_rmgL2 (fun x => x) (inv_rmgL2) (O_rmgL2)
theorem K_rmgL2 : LoopOk P [] 142 none noU C_rmgL2 (R_rmgL2) := by
  refine loop_of hm (cx := [c_Merge.gc, c_rMerge.gc, c_SameInts.gc]) [] (xl := X_rmgL2) (α := List (List Int × List (Int × (Int × (Int × V)))) × List (List Int) × List (List V) × Int × Unit) (fun x => x) (fun (rs, ss, ls, k, ()) => (3 - k).toNat) (fun _ => rfl) (by kernel_rfl) (by kernel_rfl) ?_ (by kernel_rfl) trivial ?_
  · intro e S L' h
    unfold X_rmgL2 at h
    split at h <;> first | (cases h; done) | (cases h; kernel_rfl) | (rcases bif_some h with h | h <;> cases h <;> kernel_rfl)
  · rintro ⟨rs, ss, ls, k, ⟨⟩⟩ hinv Q hQ
    refine hold_of_eq (B_rmgL2 rs ss ls k) ?_
    obtain ⟨h0, h1, h2, h3, h4, h5, h6⟩ := hinv
    rw [W_id (n := k + 1) (by omega) (by omega)]
    refine ⟨fun c1 => ?_, fun c1 => hQ⟩
    have c1 := of_decide_eq_true c1
    have r1 : 0 ≤ k ∧ k < (rs.length : Int) := by omega
    have r2 : k.toNat < rs.length := by omega
    have s1 : 0 ≤ k ∧ k < (ss.length : Int) := by omega
    have s2 : k.toNat < ss.length := by omega
    have l1 : 0 ≤ k ∧ k < (ls.length : Int) := by omega
    have l2 : k.toNat < ls.length := by omega
    have i5 : ((ss.getD k.toNat []).length : Int) < 2 ^ 62 := h5 _ (getD_mem (by omega))
    have i6 : ((ls.getD k.toNat []).length : Int) < 2 ^ 62 := h6 _ (getD_mem (by omega))
    obtain ⟨m1, m2⟩ := mrgS_len (rs.getD k.toNat ([], [])) (ss.getD k.toNat []) (ls.getD k.toNat [])
    have e1 : ∀ z : Int, (z != z) = false := fun z => by simp
    have e2 : ∀ z : List Int, (!decide (z = z)) = false := fun z => by simp
    rw [merge_eq]
    simp only [e1, e2]
    exact ⟨r1, r2, s1, s2, l1, l2, i6, r1, r2, s1, s2, l1, l2, ⟨i6, i5⟩, m1, fun h => (by cases h), fun _ => ⟨m2, fun h => (by cases h), fun _ => ⟨fun h => (by cases h), fun _ => ⟨⟨⟨by omega, by omega, h2, h3, h4, h5, h6⟩, by show (3 - (k + 1)).toNat < (3 - k).toNat; omega⟩, hQ⟩⟩⟩⟩
theorem T_RigMerges (s0_0 : List Int) (s0_1 : List (Int × (Int × (Int × V)))) (s : List Int) (l : List V) (s3 : List Int) : fnTree (P := P) [c_BigRig.gc, c_NewRing.gc, c_RigOf.gc, c_Places.gc, c_Mod.gc, c_awake.gc] (lpOf [(0, R_rmg0L), (2, R_rmgL2)]) Try.f15 (encL 0 [.agg (.pair tIs (.sl (.pair tI (.pair tI (.pair tI tV))))), .val tIs, .val tVs, .val tIs] ((s0_0, s0_1), s, l, s3, ())) =
  Tree.cond (decide ((↑(List.length s0_0) : Int) > (6 : Int)) || decide ((↑(List.length s0_1) : Int) > (30 : Int))) (Tree.leaf (SV.bool true)) (Tree.cond (decide ((↑(List.length s) : Int) > (8 : Int))) (Tree.leaf (SV.bool true)) (Tree.cond (decide ((↑(List.length l) : Int) > (14 : Int))) (Tree.leaf (SV.bool true)) (Tree.need ((0 : Int) ≤ (0 : Int) ∧ (0 : Int) ≤ (500000000 : Int)) (Tree.need (inv_rmg0L (s, l, (), (), (), [], (0 : Int), s0_0, s0_1, (kRig s3 (0 : Int)).fst, (kRig s3 (0 : Int)).snd, s3, kRigK s3 (0 : Int), ())) (Tree.need (KRig (kRig s3 (0 : Int)) ∧ (0 : Int) ≤ kRigK s3 (0 : Int) ∧ kRigK s3 (0 : Int) ≤ (500000000 : Int)) (Tree.need (KRig (kRig s3 (0 : Int)) ∧ (0 : Int) ≤ kPlcK s3 (kRig s3 (0 : Int)) (kRigK s3 (0 : Int)) ∧ kPlcK s3 (kRig s3 (0 : Int)) (kRigK s3 (0 : Int)) ≤ (500000000 : Int)) (Tree.need (inv_rmgL2 ([(s0_0, s0_1), kRig s3 (0 : Int), kRig s3 (0 : Int)], [s, kPlc s3 (kRig s3 (0 : Int)) (kRigK s3 (0 : Int)), kPlc s3 (kRig s3 (0 : Int)) (kPlcK s3 (kRig s3 (0 : Int)) (kRigK s3 (0 : Int)))], [l, l, reqM (↑(List.length (kRig s3 (0 : Int)).fst) : Int) (List.drop (Int.toNat (0 : Int)) l)], (0 : Int), ())) (Tree.leaf (SV.bool true))))))))) := by kernel_rfl
def c_RigMerges : PC P := PC.of (α := (List Int × List (Int × (Int × (Int × V)))) × List Int × List V × List Int × Unit) 15 [.agg (.pair tIs (.sl (.pair tI (.pair tI (.pair tI tV))))), .val tIs, .val tVs, .val tIs] (fun x => x) (fun x => x) (fun _ => rfl)
  (fun _ => none)
  (fun x => .bool true) (by kernel_rfl) (by
    rintro ⟨⟨s0_0, s0_1⟩, s, l, s3, ⟨⟩⟩ hp
    refine fn_of hm (by kernel_rfl) (by kernel_rfl) (T_RigMerges s0_0 s0_1 s l s3) ⟨K_rmg0L, K_rmgL2, trivial⟩ ?_
    try dsimp only at hp
    try dsimp only
    obtain ⟨hk, hk1, hk2⟩ := kRig_ok (l := s3) (k := 0) (by decide)
    have l3 := hk.l3
    have l2 := hk.l2
    obtain ⟨v, v1, v2⟩ := kPlc_ok (l := s3) hk hk1
    obtain ⟨w, w1, w2⟩ := kPlc_ok (l := s3) hk (k := kPlcK s3 (kRig s3 0) (kRigK s3 0)) (by omega)
    refine ⟨fun c1 => rfl, fun c1 => ⟨fun c2 => rfl, fun c2 => ⟨fun c3 => rfl, fun c3 => ?_⟩⟩⟩
    have d2 : (s.length : Int) ≤ 8 := by have := of_decide_eq_false c2; omega
    have d3 : (l.length : Int) ≤ 14 := by have := of_decide_eq_false c3; omega
    refine ⟨⟨by decide, by decide⟩, ⟨by decide, by omega, d3, by show (0 : Int) ≤ 0; decide, by omega, l3⟩, ⟨hk, hk1, by omega⟩, ⟨hk, by omega, by omega⟩, ⟨by decide, by decide, rfl, rfl, rfl, fun x hx => ?_, fun x hx => ?_⟩, rfl⟩
    · simp only [List.mem_cons, List.not_mem_nil, or_false] at hx
      rcases hx with rfl | rfl | rfl
      · omega
      · rw [v.sl]; omega
      · rw [w.sl]; omega
    · simp only [List.mem_cons, List.not_mem_nil, or_false] at hx
      rcases hx with rfl | rfl | rfl
      · omega
      · omega
      · rw [reqM_len, Int.toNat_zero, List.drop_zero]; omega)
end
end Go.MR
