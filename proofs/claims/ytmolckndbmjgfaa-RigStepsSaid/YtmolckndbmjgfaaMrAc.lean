/- RigSteps: what becomes of a state in a tick with lost commands; how far a plan can be followed. -/
import Derived.Test.YtmolckndbmjgfaaMrY
namespace Go.MR
open Go Go.Sx Go.Proofs
set_option linter.unusedVariables false
set_option linter.unusedSimpArgs false
noncomputable section

/-! ### The program's Follow -/
def folS (r : Rig) : List (List Int) → Int → List Int → Int × List Int
  | [], _, s => (-1, s)
  | m :: pl, i, s => if (stepS r s m []).2 ≠ 0 then (i, s) else folS r pl (i + 1) (stepS r s m []).1
theorem folS_nil (r : Rig) (i : Int) (s : List Int) : folS r [] i s = (-1, s) := rfl
theorem folS_step {r : Rig} {l : List (List Int)} {i : Int} {s : List Int} (h0 : 0 ≤ i) (h : i < l.length) : folS r (l.drop i.toNat) i s = if (stepS r s (l.getD i.toNat []) []).2 ≠ 0 then (i, s) else folS r (l.drop (i + 1).toNat) (i + 1) (stepS r s (l.getD i.toNat []) []).1 := by
  rw [drop_step ([] : List Int) h0 h, folS]
def folOk (r : Rig) (l : List (List Int)) (i : Int) (s : List Int) : Bool := decide ((folS r l i s).1 = -1)
def folA (r : Rig) (l : List (List Int)) (i : Int) (s : List Int) : List Int := (folS r l i s).2
def folI (r : Rig) (l : List (List Int)) (i : Int) (s : List Int) : Int := (folS r l i s).1
theorem fol_stop {r : Rig} {l : List (List Int)} {i : Int} {s : List Int} (h0 : 0 ≤ i) (h : i < l.length) (hs : (stepS r s (l.getD i.toNat []) []).2 ≠ 0) : folOk r (l.drop i.toNat) i s = false ∧ folI r (l.drop i.toNat) i s = i ∧ folA r (l.drop i.toNat) i s = s := by
  unfold folOk folI folA
  rw [folS_step h0 h, if_pos hs]
  exact ⟨decide_eq_false (show ¬ i = -1 by omega), rfl, rfl⟩
theorem fol_go {r : Rig} {l : List (List Int)} {i : Int} {s : List Int} (h0 : 0 ≤ i) (h : i < l.length) (hs : (stepS r s (l.getD i.toNat []) []).2 = 0) :
    folOk r (l.drop i.toNat) i s = folOk r (l.drop (i + 1).toNat) (i + 1) (stepS r s (l.getD i.toNat []) []).1 ∧ folI r (l.drop i.toNat) i s = folI r (l.drop (i + 1).toNat) (i + 1) (stepS r s (l.getD i.toNat []) []).1 ∧ folA r (l.drop i.toNat) i s = folA r (l.drop (i + 1).toNat) (i + 1) (stepS r s (l.getD i.toNat []) []).1 := by
  unfold folOk folI folA
  rw [folS_step h0 h, if_neg (by rw [hs]; simp)]
  exact ⟨rfl, rfl, rfl⟩
theorem fol_end {r : Rig} {l : List (List Int)} {i : Int} {s : List Int} (h : ¬ i < l.length) : folOk r (l.drop i.toNat) i s = true ∧ folA r (l.drop i.toNat) i s = s := by
  unfold folOk folA
  rw [drop_end h, folS_nil]
  exact ⟨rfl, rfl⟩
theorem stepS_len (r : Rig) (s m lost : List Int) : (stepS r s m lost).1.length ≤ 4 := by
  unfold stepS
  split
  · exact Nat.zero_le _
  split
  · exact Nat.zero_le _
  split
  · exact Nat.zero_le _
  split
  · exact Nat.zero_le _
  · rename_i c1 c2 c3 c4
    have hs := stOk_of (show stateS (r.1, r.2) s = 0 by simpa using c1)
    have ml := moveS_len (show moveS r m = true by simpa using c2)
    have l4 := hs.l4
    have sl := hs.sl
    dsimp only at l4 sl
    show (appS lost s m 0).length ≤ 4
    rw [appS_len lost 0 (by omega)]
    omega
def followS (r : Rig) (s : List Int) (pl : List (List Int)) : Int × List Int × Int :=
  if stateS r s ≠ 0 then (0, [], stateS r s) else ((folS r pl 0 s).1, (folS r pl 0 s).2, 0)

theorem T_moveW (s0_0 : List Int) (s0_1 : List (Int × (Int × (Int × V)))) (s1 : List Int) : fnTree (P := P) [c_ixMC.gc] (lpOf []) Try.f80 (encL 0 [.agg (.pair tIs (.sl (.pair tI (.pair tI (.pair tI tV))))), .val tIs] ((s0_0, s0_1), s1, ())) =
  Tree.cond ((↑(List.length s1) : Int) == (↑(List.length s0_0) : Int)) (Tree.need ((↑(List.length s1) : Int) < (2 : Int) ^ (62 : Nat)) (Tree.leaf (SV.bool !List.any s1 badM))) (Tree.leaf (SV.bool false)) := by kernel_rfl

def c_moveW : PC P := PC.of (α := (List Int × List (Int × (Int × (Int × V)))) × List Int × Unit) 80 [.agg (.pair tIs (.sl (.pair tI (.pair tI (.pair tI tV))))), .val tIs] (fun x => x) (fun x => x) (fun _ => rfl)
  (fun x => some ((x.1.1.length : Int) < 2 ^ 62))
  (fun x => .bool (moveS x.1 x.2.1)) (by kernel_rfl) (by
    rintro ⟨⟨s0_0, s0_1⟩, s1, ⟨⟩⟩ hp
    refine fn_of hm (by kernel_rfl) (by kernel_rfl) (T_moveW s0_0 s0_1 s1) trivial ?_

    try dsimp only at hp
    try dsimp only
    have hp' : (s0_0.length : Int) < 2 ^ 62 := hp
    refine ⟨fun c1 => ⟨by have : (s1.length : Int) = s0_0.length := (by simpa using c1); omega, ?_⟩, fun c1 => ?_⟩
    · have e : moveS (s0_0, s0_1) s1 = !s1.any badM := by unfold moveS; rw [decide_eq_true (show (s1.length : Int) = s0_0.length by simpa using c1), Bool.true_and]
      exact congrArg SV.bool e.symm
    · have e : moveS (s0_0, s0_1) s1 = false := by unfold moveS; rw [decide_eq_false (show ¬ (s1.length : Int) = s0_0.length by simpa using c1), Bool.false_and]
      exact congrArg SV.bool e.symm)
def L_StepW : Lay := { slots := [(0, .agg (.pair tIs (.sl (.pair tI (.pair tI (.pair tI tV)))))), (1, .val tIs), (2, .val tIs), (3, .val tIs)] }
theorem T_StepW (s0_0 : List Int) (s0_1 : List (Int × (Int × (Int × V)))) (s m lost : List Int) : mTree (P := P) [c_State.gc, c_moveW.gc, c_Allowed.gc, c_ixLC.gc] (lpOf [(0, R_stp0)]) Try.f51 L_StepW true ((s0_0, s0_1), s, m, lost, ()) =
  Tree.cond (stateS (s0_0, s0_1) s != (0 : Int)) (Tree.leaf { res := SV.tup [SV.nils, SV.int IntKind.i64 (stateS (s0_0, s0_1) s)], boxes := [] }) (Tree.need ((↑(List.length s0_0) : Int) < (2 : Int) ^ (62 : Nat)) (Tree.cond (!moveS (s0_0, s0_1) m) (Tree.leaf { res := SV.tup [SV.nils, SV.int IntKind.i64 (3 : Int)], boxes := [] }) (Tree.need ((↑(List.length m) : Int) < (2 : Int) ^ (62 : Nat)) (Tree.cond (!(allowS (s0_0, s0_1) s m).fst) (Tree.leaf { res := SV.tup [SV.nils, SV.int IntKind.i64 (12 : Int)], boxes := [] }) (Tree.need ((↑(List.length lost) : Int) < (2 : Int) ^ (62 : Nat)) (Tree.cond (List.any lost (badL s)) (Tree.leaf { res := SV.tup [SV.nils, SV.int IntKind.i64 (7 : Int)], boxes := [] }) (Tree.need ((0 : Int) ≤ (↑(List.length s) : Int) ∧ (↑(List.length s) : Int) = (↑(List.length s) : Int) ∧ (↑(List.length s) : Int) ≤ (70368744177664 : Int) ∧ (↑(8 : Nat) : Int) * (↑(List.length s) : Int) ≤ (140737488355328 : Int)) (Tree.need ((0 : Nat) < List.length (List.replicate (Int.toNat (↑(List.length s) : Int)) (0 : Int)) ∧ List.length s = List.length (List.replicate (Int.toNat (↑(List.length s) : Int)) (0 : Int))) (Tree.need (inv_stp0 (m, lost, s, (↑(List.length s) : Int), (0 : Int), ())) (Tree.leaf { res := SV.tup [SV.own (nat_lit 100), SV.int IntKind.i64 (0 : Int)], boxes := [], news := [Ob.row (3 : TypeId) tI (appF lost s m (0 : Int))] })))))))))) := by kernel_rfl

def c_StepW : XC P := XC.of (α := (List Int × List (Int × (Int × (Int × V)))) × List Int × List Int × List Int × Unit) 51 L_StepW (fun x => x) (fun x => x) (fun _ => rfl)
  (fun x => some ((x.2.2.2.1.length : Int) < 2 ^ 62))
  (fun x => ⟨.tup [.own 100, .int .i64 (stepS x.1 x.2.1 x.2.2.1 x.2.2.2.1).2], [], [.row 3 tI (stepS x.1 x.2.1 x.2.2.1 x.2.2.2.1).1]⟩) (by kernel_rfl) (by kernel_rfl) (by
    rintro ⟨⟨s0_0, s0_1⟩, s, m, lost, ⟨⟩⟩ hp
    refine m_nil hm (own := true) (by kernel_rfl) (by kernel_rfl) (by kernel_rfl) (T_StepW s0_0 s0_1 s m lost) ⟨K_stp0, trivial⟩ (by kernel_rfl) ?_

    try dsimp only at hp
    try dsimp only
    have p2 : (lost.length : Int) < 2 ^ 62 := hp
    have bad : ∀ e : Int, stepS (s0_0, s0_1) s m lost = ([], e) → (fun q : MOut => q = ⟨.tup [.own 100, .int .i64 (stepS (s0_0, s0_1) s m lost).2], [], [.row 3 tI (stepS (s0_0, s0_1) s m lost).1]⟩ ∨ (q.boxes = [] ∧ q.news = [] ∧ (stepS (s0_0, s0_1) s m lost).1 = [] ∧ NilS q.res (.tup [.own 100, .int .i64 (stepS (s0_0, s0_1) s m lost).2]))) ⟨.tup [.nils, .int .i64 e], [], []⟩ := fun e h => .inr ⟨rfl, rfl, by rw [h], by rw [h]; simp [NilS, NilL, newBase, isData]⟩
    have pl : (!(stateS (s0_0, s0_1) s != 0)) = true → (s0_0.length : Int) < 2 ^ 62 := fun c => by
      have hs := stOk_of (show stateS (s0_0, s0_1) s = 0 by simpa using c)
      have l4 := hs.l4
      dsimp only at l4
      omega
    have pm : moveS (s0_0, s0_1) m = true → (s0_0.length : Int) < 2 ^ 62 → (m.length : Int) < 2 ^ 62 := fun c h => by
      have ml := moveS_len c
      dsimp only at ml
      omega
    refine ⟨fun c1 => ?_, fun c1 => ⟨pl (by rw [c1]; rfl), fun c2 => ?_, fun c2 => ⟨pm (by simpa using c2) (pl (by rw [c1]; rfl)), fun c3 => ?_, fun c3 => ⟨p2, fun c4 => ?_, fun c4 => ?_⟩⟩⟩⟩
    · have d1 : stateS (s0_0, s0_1) s ≠ 0 := by simpa using c1
      exact bad _ (by unfold stepS; rw [if_pos d1])
    all_goals
      have d1 : stateS (s0_0, s0_1) s = 0 := by simpa using c1
    · have d2 : moveS (s0_0, s0_1) m = false := by simpa using c2
      exact bad _ (by unfold stepS; rw [if_neg (by rw [d1]; simp), if_pos d2])
    all_goals
      have d2 : moveS (s0_0, s0_1) m = true := by simpa using c2
    · have d3 : (allowS (s0_0, s0_1) s m).1 = false := by simpa using c3
      exact bad _ (by unfold stepS; rw [if_neg (by rw [d1]; simp), if_neg (by rw [d2]; simp), if_pos d3])
    all_goals
      have d3 : (allowS (s0_0, s0_1) s m).1 = true := by simpa using c3
    · have d4 : lost.any (badL s) = true := c4
      exact bad _ (by unfold stepS; rw [if_neg (by rw [d1]; simp), if_neg (by rw [d2]; simp), if_neg (by rw [d3]; simp), if_pos d4])
    · have d4 : lost.any (badL s) = false := c4
      have hs := stOk_of d1
      have l2 := hs.l2
      have l4 := hs.l4
      have sl := hs.sl
      have ml := moveS_len d2
      dsimp only at l2 l4 sl ml
      have e : stepS (s0_0, s0_1) s m lost = (appS lost s m 0, 0) := by unfold stepS; rw [if_neg (by rw [d1]; simp), if_neg (by rw [d2]; simp), if_neg (by rw [d3]; simp), if_neg (by rw [d4]; simp)]
      have ef : appF lost s m 0 = appS lost s m 0 := by unfold appF; simp
      rw [e, ef]
      exact ⟨⟨by omega, rfl, by omega, by omega⟩, ⟨by rw [List.length_replicate, Int.toNat_natCast]; omega, by rw [List.length_replicate, Int.toNat_natCast]⟩, ⟨rfl, by decide, by omega, by omega, by omega, p2⟩, .inl rfl⟩)

def L_fol0 : Lay := { slots := [(1, .row 3 tI), (3, .ptr 4043 0), (22, .val (.sl tIs)), (23, .val tI), (24, .val tI)], boxes := [(4043, [.val tIs, .val (.sl (.pair tI (.pair tI (.pair tI tV))))])] }
def L_fol0_0 : Lay := { slots := [(6, .val tI), (7, .row 3 tI), (8, .val tI)] }
def L_fol0_1 : Lay := { slots := [(1, .row 3 tI)] }
def X_fol0 : Exit → St → Option Lay
  | .ret, _ => some L_fol0_0
  | .exit 0, _ => some L_fol0_1
  | _, _ => none
abbrev C_fol0 : Code := loopC (bodyOf Try.f54) 0
theorem B_fol0 (s : List Int) (l : List (List Int)) (n i : Int) (ps : List Int) (bs : List (Int × (Int × (Int × V)))) : loopBodyA (P := P) [c_StepW.gc] (lpOf []) [] 43 noU (inner C_fol0) L_fol0 X_fol0 (α := List Int × Unit × List (List Int) × Int × Int × List Int × List (Int × (Int × (Int × V))) × Unit) (fun x => x) (fun x => x) (s, (), l, n, i, ps, bs, ()) =
  Tree.cond (decide (i < n)) (Tree.need ((0 : Int) ≤ i ∧ i < (↑(List.length l) : Int)) (Tree.need ((↑(0 : Nat) : Int) < (2 : Int) ^ (62 : Nat)) (Tree.cond ((stepS (ps, bs) s (List.getD l (Int.toNat i) []) []).snd != (0 : Int)) (Tree.leaf (Sum.inr (Exit.ret, Lay.st L_fol0_0 noU (i, s, (0 : Int), PUnit.unit)))) (Tree.leaf (Sum.inl ((stepS (ps, bs) s (List.getD l (Int.toNat i) []) []).fst, PUnit.unit, l, n, IntKind.wrap IntKind.i64 (i + (1 : Int)), ps, bs, PUnit.unit)))))) (Tree.leaf (Sum.inr (Exit.exit (0 : Nat), Lay.st L_fol0_1 noU (s, PUnit.unit)))) := by kernel_rfl

def inv_fol0 : List Int × Unit × List (List Int) × Int × Int × List Int × List (Int × (Int × (Int × V))) × Unit → Prop := fun (s, (), l, n, i, ps, bs, ()) => n = l.length ∧ 0 ≤ i ∧ i ≤ n ∧ (l.length : Int) < 2 ^ 62 ∧ True
def O_fol0 : List Int × Unit × List (List Int) × Int × Int × List Int × List (Int × (Int × (Int × V))) × Unit → Tree (Exit × St) := fun (s, (), l, n, i, ps, bs, ()) => .cond (folOk (ps, bs) (l.drop i.toNat) i s) (.leaf (.exit 0, L_fol0_1.st noU ((folA (ps, bs) (l.drop i.toNat) i s), ()))) (.leaf (.ret, L_fol0_0.st noU ((folI (ps, bs) (l.drop i.toNat) i s), (folA (ps, bs) (l.drop i.toNat) i s), ((0 : Int)), ())))
def R_fol0 : LRun := runOf 43 L_fol0 (fun x => x) (inv_fol0) (O_fol0)
theorem K_fol0 : LoopOk P [] 43 none noU C_fol0 (R_fol0) := by
  refine loop_of hm (cx := [c_StepW.gc]) [] (xl := X_fol0) (α := List Int × Unit × List (List Int) × Int × Int × List Int × List (Int × (Int × (Int × V))) × Unit) (fun x => x) (fun (s, (), l, n, i, ps, bs, ()) => (n - i).toNat) (fun _ => rfl) (by kernel_rfl) (by kernel_rfl) ?_ (by kernel_rfl) trivial ?_
  · intro e S L' h
    unfold X_fol0 at h
    split at h <;> first | (cases h; done) | (cases h; kernel_rfl) | (rcases bif_some h with h | h <;> cases h <;> kernel_rfl)
  · rintro ⟨s, ⟨⟩, l, n, i, ps, bs, ⟨⟩⟩ hinv Q hQ
    refine hold_of_eq (B_fol0 s l n i ps bs) ?_

    obtain ⟨rfl, h0, h1, h2, _⟩ := hinv
    rw [W_id (n := i + 1) (by omega) (by omega)]
    have hQ1 : folOk (ps, bs) (l.drop i.toNat) i s = true → Q (.exit 0, L_fol0_1.st noU (folA (ps, bs) (l.drop i.toNat) i s, ())) := hQ.1
    have hQ2 : folOk (ps, bs) (l.drop i.toNat) i s = false → Q (.ret, L_fol0_0.st noU (folI (ps, bs) (l.drop i.toNat) i s, folA (ps, bs) (l.drop i.toNat) i s, (0 : Int), ())) := hQ.2
    refine ⟨fun c1 => ?_, fun c1 => ?_⟩
    · have d1 : i < l.length := of_decide_eq_true c1
      have hm : ((l.length : Int) - (i + 1)).toNat < ((l.length : Int) - i).toNat := by omega
      refine ⟨⟨h0, d1⟩, by decide, fun c2 => ?_, fun c2 => ?_⟩
      · have d2 : (stepS (ps, bs) s (l.getD i.toNat []) []).2 ≠ 0 := by simpa using c2
        obtain ⟨e1, e2, e3⟩ := fol_stop h0 d1 d2
        have := hQ2 e1
        rw [e2, e3] at this
        exact this
      · have d2 : (stepS (ps, bs) s (l.getD i.toNat []) []).2 = 0 := by simpa using c2
        obtain ⟨e1, e2, e3⟩ := fol_go h0 d1 d2
        rw [e1, e3] at hQ1
        rw [e1, e2, e3] at hQ2
        exact ⟨⟨⟨rfl, by omega, by omega, h2, trivial⟩, hm⟩, hQ1, hQ2⟩
    · obtain ⟨e1, e2⟩ := fol_end (r := (ps, bs)) (s := s) (of_decide_eq_false c1)
      have := hQ1 e1
      rw [e2] at this
      exact this
def L_Follow : Lay := { slots := [(0, .agg (.pair tIs (.sl (.pair tI (.pair tI (.pair tI tV)))))), (1, .val tIs), (2, .val (.sl tIs))] }
theorem T_Follow (s0_0 : List Int) (s0_1 : List (Int × (Int × (Int × V)))) (s : List Int) (pl : List (List Int)) : mTree (P := P) [c_State.gc, c_clone.gc, c_StepW.gc] (lpOf [(0, R_fol0)]) Try.f54 L_Follow true ((s0_0, s0_1), s, pl, ()) =
  Tree.cond (stateS (s0_0, s0_1) s != (0 : Int)) (Tree.leaf { res := SV.tup [SV.int IntKind.i64 (0 : Int), SV.nils, SV.int IntKind.i64 (stateS (s0_0, s0_1) s)], boxes := [] }) (Tree.need (s ≠ [] ∧ List.length s ≤ (1000 : Nat)) (Tree.need (inv_fol0 (s, (), pl, (↑(List.length pl) : Int), (0 : Int), s0_0, s0_1, ())) (Tree.cond (folOk (s0_0, s0_1) (List.drop (Int.toNat (0 : Int)) pl) (0 : Int) s) (Tree.leaf { res := SV.tup [SV.int IntKind.i64 (-1 : Int), SV.own (nat_lit 100), SV.int IntKind.i64 (0 : Int)], boxes := [], news := [Ob.row (3 : TypeId) tI (folA (s0_0, s0_1) (List.drop (Int.toNat (0 : Int)) pl) (0 : Int) s)] }) (Tree.leaf { res := SV.tup [SV.int IntKind.i64 (folI (s0_0, s0_1) (List.drop (Int.toNat (0 : Int)) pl) (0 : Int) s), SV.own (nat_lit 100), SV.int IntKind.i64 (0 : Int)], boxes := [], news := [Ob.row (3 : TypeId) tI (folA (s0_0, s0_1) (List.drop (Int.toNat (0 : Int)) pl) (0 : Int) s)] })))) := by kernel_rfl

def c_Follow : XC P := XC.of (α := (List Int × List (Int × (Int × (Int × V)))) × List Int × List (List Int) × Unit) 54 L_Follow (fun x => x) (fun x => x) (fun _ => rfl)
  (fun x => some ((x.2.2.1.length : Int) < 2 ^ 62))
  (fun x => ⟨.tup [.int .i64 (followS x.1 x.2.1 x.2.2.1).1, .own 100, .int .i64 (followS x.1 x.2.1 x.2.2.1).2.2], [], [.row 3 tI (followS x.1 x.2.1 x.2.2.1).2.1]⟩) (by kernel_rfl) (by kernel_rfl) (by
    rintro ⟨⟨s0_0, s0_1⟩, s, pl, ⟨⟩⟩ hp
    refine m_nil hm (own := true) (by kernel_rfl) (by kernel_rfl) (by kernel_rfl) (T_Follow s0_0 s0_1 s pl) ⟨K_fol0, trivial⟩ (by kernel_rfl) ?_

    try dsimp only at hp
    try dsimp only
    have p1 : (pl.length : Int) < 2 ^ 62 := hp
    have bad : ∀ e : Int, followS (s0_0, s0_1) s pl = (0, [], e) → (fun q : MOut => q = ⟨.tup [.int .i64 (followS (s0_0, s0_1) s pl).1, .own 100, .int .i64 (followS (s0_0, s0_1) s pl).2.2], [], [.row 3 tI (followS (s0_0, s0_1) s pl).2.1]⟩ ∨ (q.boxes = [] ∧ q.news = [] ∧ (followS (s0_0, s0_1) s pl).2.1 = [] ∧ NilS q.res (.tup [.int .i64 (followS (s0_0, s0_1) s pl).1, .own 100, .int .i64 (followS (s0_0, s0_1) s pl).2.2]))) ⟨.tup [.int .i64 0, .nils, .int .i64 e], [], []⟩ := fun e h => .inr ⟨rfl, rfl, by rw [h], by rw [h]; simp [NilS, NilL, newBase, isData]⟩
    refine ⟨fun c1 => ?_, fun c1 => ?_⟩
    · have d1 : stateS (s0_0, s0_1) s ≠ 0 := by simpa using c1
      exact bad _ (by unfold followS; rw [if_pos d1])
    have d1 : stateS (s0_0, s0_1) s = 0 := by simpa using c1
    have hs := stOk_of d1
    have l2 := hs.l2
    have l4 := hs.l4
    have sl := hs.sl
    dsimp only at l2 l4 sl
    have hF : followS (s0_0, s0_1) s pl = (folI (s0_0, s0_1) pl 0 s, folA (s0_0, s0_1) pl 0 s, 0) := by unfold followS folI folA; rw [if_neg (by rw [d1]; simp)]
    rw [hF]
    refine ⟨⟨fun e => by rw [e] at sl; simp at sl; omega, by omega⟩, ⟨rfl, by decide, by omega, p1, trivial⟩, fun c2 => ?_, fun c2 => ?_⟩
    · have e1 : folI (s0_0, s0_1) pl 0 s = -1 := of_decide_eq_true c2
      rw [e1]
      exact .inl rfl
    · exact .inl rfl)

/-! ### The reference's Step and Follow -/
def L_rmvLL : Lay := { slots := [(1, .val tIs), (2, .ptr 3030 0), (5, .val tI)], boxes := [(3030, [.val tIs, .val (.sl (.pair tI (.pair tI (.pair tI tV))))])] }
def L_rmvLL_0 : Lay := { slots := [(4, .val .bool)] }
def L_rmvLL_1 : Lay := { slots := [(1, .val tIs), (2, .ptr 3030 0)], boxes := [(3030, [.val tIs, .val (.sl (.pair tI (.pair tI (.pair tI tV))))])] }
def X_rmvLL : Exit → St → Option Lay
  | .ret, _ => some L_rmvLL_0
  | .exit 0, _ => some L_rmvLL_1
  | _, _ => none
abbrev C_rmvLL : Code := loopC (bodyOf Try.f82) 0
theorem B_rmvLL (m : List Int) (i : Int) (ps : List Int) (bs : List (Int × (Int × (Int × V)))) : loopBodyA (P := P) [] (lpOf []) [] 30 noU (inner C_rmvLL) L_rmvLL X_rmvLL (α := List Int × Unit × Int × List Int × List (Int × (Int × (Int × V))) × Unit) (fun x => x) (fun x => x) (m, (), i, ps, bs, ()) =
  Tree.cond (decide (i < (↑(List.length m) : Int))) (Tree.need ((0 : Int) ≤ i ∧ i < (↑(List.length m) : Int)) (Tree.cond (decide (List.getD m (Int.toNat i) (0 : Int) < (-1 : Int))) (Tree.leaf (Sum.inr (Exit.ret, Lay.st L_rmvLL_0 noU (false, PUnit.unit)))) (Tree.need ((0 : Int) ≤ i ∧ i < (↑(List.length m) : Int)) (Tree.cond (decide (List.getD m (Int.toNat i) (0 : Int) > (1 : Int))) (Tree.leaf (Sum.inr (Exit.ret, Lay.st L_rmvLL_0 noU (false, PUnit.unit)))) (Tree.leaf (Sum.inl (m, PUnit.unit, IntKind.wrap IntKind.i64 (i + (1 : Int)), ps, bs, PUnit.unit))))))) (Tree.leaf (Sum.inr (Exit.exit (0 : Nat), Lay.st L_rmvLL_1 noU (m, PUnit.unit, ps, bs, PUnit.unit)))) := by kernel_rfl

def inv_rmvLL : List Int × Unit × Int × List Int × List (Int × (Int × (Int × V))) × Unit → Prop := fun (m, (), i, ps, bs, ()) => 0 ≤ i ∧ i ≤ m.length ∧ (m.length : Int) ≤ 9223372036854775807
def O_rmvLL : List Int × Unit × Int × List Int × List (Int × (Int × (Int × V))) × Unit → Tree (Exit × St) := fun (m, (), i, ps, bs, ()) => .cond ((m.drop i.toNat).any badM) (.leaf (.ret, L_rmvLL_0.st noU ((false), ()))) (.leaf (.exit 0, L_rmvLL_1.st noU (m, (), ps, bs, ())))
def R_rmvLL : LRun := runOf 30 L_rmvLL (fun x => x) (inv_rmvLL) (O_rmvLL)
theorem K_rmvLL : LoopOk P [] 30 none noU C_rmvLL (R_rmvLL) := by
  refine loop_of hm (cx := []) [] (xl := X_rmvLL) (α := List Int × Unit × Int × List Int × List (Int × (Int × (Int × V))) × Unit) (fun x => x) (fun (m, (), i, ps, bs, ()) => (m.length - i).toNat) (fun _ => rfl) (by kernel_rfl) (by kernel_rfl) ?_ (by kernel_rfl) trivial ?_
  · intro e S L' h
    unfold X_rmvLL at h
    split at h <;> first | (cases h; done) | (cases h; kernel_rfl) | (rcases bif_some h with h | h <;> cases h <;> kernel_rfl)
  · rintro ⟨m, ⟨⟩, i, ps, bs, ⟨⟩⟩ hinv Q hQ
    refine hold_of_eq (B_rmvLL m i ps bs) ?_

    obtain ⟨h0, h1, h2⟩ := hinv
    unfold O_rmvLL at hQ
    dsimp only at hQ
    refine ⟨fun c1 => ?_, fun c1 => ?_⟩
    · have d1 := of_decide_eq_true c1
      rw [W_id (n := i + 1) (by omega) (by omega)]
      have hm : ((m.length : Int) - (i + 1)).toNat < ((m.length : Int) - i).toNat := by omega
      rw [badM_step h0 d1] at hQ
      unfold badM wi at hQ
      generalize m.getD i.toNat 0 = x at *
      refine ⟨⟨h0, d1⟩, fun c2 => ?_, fun c2 => ⟨⟨h0, d1⟩, fun c3 => ?_, fun c3 => ?_⟩⟩
      · have d2 := of_decide_eq_true c2
        rw [decide_eq_false (show ¬ (-1 : Int) ≤ x by omega), Bool.false_and, Bool.not_false, Bool.true_or] at hQ
        exact hQ.1 rfl
      · have d3 := of_decide_eq_true c3
        rw [decide_eq_false (show ¬ x ≤ 1 by omega), Bool.and_false, Bool.not_false, Bool.true_or] at hQ
        exact hQ.1 rfl
      · have d2 := of_decide_eq_false c2
        have d3 := of_decide_eq_false c3
        rw [decide_eq_true (show (-1 : Int) ≤ x by omega), decide_eq_true (show x ≤ 1 by omega), Bool.true_and, Bool.not_true, Bool.false_or] at hQ
        exact ⟨⟨⟨by omega, by omega, h2⟩, hm⟩, hQ⟩
    · have d1 := of_decide_eq_false c1
      rw [drop_end d1] at hQ
      exact hQ.2 rfl
theorem T_rmoveW (s0_0 : List Int) (s0_1 : List (Int × (Int × (Int × V)))) (m : List Int) : fnTree (P := P) [] (lpOf [(0, R_rmvLL)]) Try.f82 (encL 0 [.agg (.pair tIs (.sl (.pair tI (.pair tI (.pair tI tV))))), .val tIs] ((s0_0, s0_1), m, ())) =
  Tree.need (inv_rmvLL (m, (), (0 : Int), s0_0, s0_1, ())) (Tree.cond (List.any (List.drop (Int.toNat (0 : Int)) m) badM) (Tree.leaf (SV.bool false)) (Tree.leaf (SV.bool ((↑(List.length m) : Int) == (↑(List.length s0_0) : Int))))) := by kernel_rfl

def c_rmoveW : PC P := PC.of (α := (List Int × List (Int × (Int × (Int × V)))) × List Int × Unit) 82 [.agg (.pair tIs (.sl (.pair tI (.pair tI (.pair tI tV))))), .val tIs] (fun x => x) (fun x => x) (fun _ => rfl)
  (fun x => some ((x.2.1.length : Int) ≤ 9223372036854775807))
  (fun x => .bool (moveS x.1 x.2.1)) (by kernel_rfl) (by
    rintro ⟨⟨s0_0, s0_1⟩, m, ⟨⟩⟩ hp
    refine fn_of hm (by kernel_rfl) (by kernel_rfl) (T_rmoveW s0_0 s0_1 m) ⟨K_rmvLL, trivial⟩ ?_

    try dsimp only at hp
    try dsimp only
    have hp' : (m.length : Int) ≤ 9223372036854775807 := hp
    refine ⟨⟨by decide, by omega, hp'⟩, fun c1 => ?_, fun c1 => ?_⟩
    · have e : moveS (s0_0, s0_1) m = false := by unfold moveS; rw [show m.any badM = true from c1, Bool.not_true, Bool.and_false]
      exact congrArg SV.bool e.symm
    · have e : moveS (s0_0, s0_1) m = decide ((m.length : Int) = s0_0.length) := by unfold moveS; rw [show m.any badM = false from c1, Bool.not_false, Bool.and_true]
      exact congrArg SV.bool (by rw [e]; rfl))
def L_movedX : Lay := { slots := [(0, .val tIs), (1, .val tIs)] }
theorem T_movedX (s m : List Int) : mTree (P := P) [] (lpOf [(0, R_movedL)]) Try.f83 L_movedX true (s, m, ()) =
  Tree.need (inv_movedL (s, m, [], (0 : Int), ())) (Tree.leaf { res := SV.own (nat_lit 100), boxes := [], news := [Ob.row (3 : TypeId) tI (movedS (List.drop (Int.toNat (0 : Int)) s) (List.drop (Int.toNat (0 : Int)) m))] }) := by kernel_rfl

def c_movedX : XC P := XC.of (α := List Int × List Int × Unit) 83 L_movedX (fun x => x) (fun x => x) (fun _ => rfl)
  (fun x => some (x.1.length ≤ x.2.1.length ∧ x.1.length ≤ 1000))
  (fun x => ⟨.own 100, [], [.row 3 tI (movedS x.1 x.2.1)]⟩) (by kernel_rfl) (by kernel_rfl) (by
    rintro ⟨s, m, ⟨⟩⟩ hp
    refine m_nil hm (own := true) (by kernel_rfl) (by kernel_rfl) (by kernel_rfl) (T_movedX s m) ⟨K_movedL, trivial⟩ (by kernel_rfl) ?_

    try dsimp only at hp
    try dsimp only
    obtain ⟨p1, p2⟩ : s.length ≤ m.length ∧ s.length ≤ 1000 := hp
    exact ⟨⟨by decide, by omega, p1, by omega, rfl⟩, .inl rfl⟩)
def putS (s : List Int) : List Int → List Int → List Int
  | [], r => r
  | x :: l, r => putS s l (r.set x.toNat (s.getD x.toNat 0))
theorem putS_step {s l r : List Int} {i : Int} (h0 : 0 ≤ i) (h : i < l.length) : putS s (l.drop i.toNat) r = putS s (l.drop (i + 1).toNat) (r.set (l.getD i.toNat 0).toNat (s.getD (l.getD i.toNat 0).toNat 0)) := by
  rw [drop_step (0 : Int) h0 h, putS]
theorem badL_iff {s : List Int} {x : Int} (h1 : 1 ≤ s.length) (h4 : s.length ≤ 4) : badL s x = true ↔ x < 0 ∨ (s.length : Int) ≤ x := by
  unfold badL wi
  rw [W_id (n := (s.length : Int) - 1) (by omega) (by omega), Bool.not_eq_true', Bool.and_eq_false_iff, decide_eq_false_iff_not, decide_eq_false_iff_not]
  omega
theorem putS_len {s : List Int} : ∀ {l r : List Int}, (putS s l r).length = r.length
  | [], r => rfl
  | x :: l, r => by rw [putS, putS_len, List.length_set]
theorem putS_get {s : List Int} : ∀ {l r : List Int} {j : Nat}, (∀ x ∈ l, 0 ≤ x ∧ x < r.length) → j < r.length → (putS s l r).getD j 0 = if l.any (eqV j) = true then s.getD j 0 else r.getD j 0
  | [], r, j, _, _ => by rw [putS, List.any_nil, if_neg (by simp)]
  | x :: l, r, j, h, hj => by
    have hx := h x (by simp)
    rw [putS, putS_get (fun y hy => by rw [List.length_set]; exact h y (List.mem_cons_of_mem _ hy)) (by rw [List.length_set]; exact hj), List.any_cons]
    by_cases c : l.any (eqV j) = true
    · rw [c, Bool.or_true, if_pos rfl, if_pos rfl]
    · rw [Bool.not_eq_true] at c
      rw [c, Bool.or_false, if_neg (by simp)]
      unfold eqV
      by_cases e : (j : Int) = x
      · rw [if_pos (beq_iff_eq.2 e)]
        have ej : x.toNat = j := by omega
        rw [ej, List.getD_eq_getElem?_getD, List.getElem?_set_self hj]; rfl
      · rw [if_neg (by rw [beq_iff_eq]; exact e), List.getD_eq_getElem?_getD, List.getElem?_set_ne (by omega), ← List.getD_eq_getElem?_getD]
theorem movedS_get : ∀ {s m : List Int} {j : Nat}, j < s.length → j < m.length → (movedS s m).getD j 0 = IntKind.wrap IntKind.i64 (s.getD j 0 + m.getD j 0)
  | [], _, _, h, _ => by simp at h
  | _ :: _, [], _, _, h => by simp at h
  | p :: s, x :: m, 0, _, _ => by rw [movedS]; rfl
  | p :: s, x :: m, j + 1, h, h2 => by
    rw [movedS, List.getD_cons_succ, List.getD_cons_succ, List.getD_cons_succ]
    exact movedS_get (by simpa using h) (by simpa using h2)
theorem put_app {s m lost : List Int} (h : s.length = m.length) (h1 : 1 ≤ s.length) (h4 : s.length ≤ 4) (hl : lost.any (badL s) = false) : putS s lost (movedS s m) = appS lost s m 0 := by
  have hlen : (movedS s m).length = s.length := movedS_len (by omega)
  have hb : ∀ x ∈ lost, 0 ≤ x ∧ x < (movedS s m).length := fun x hx => by
    rw [List.any_eq_false] at hl
    have := hl x hx
    rw [badL_iff h1 h4] at this
    omega
  refine List.ext_getElem (by rw [putS_len, hlen, appS_len lost 0 h]) fun j j1 j2 => ?_
  have j1' : j < s.length := by rw [putS_len, hlen] at j1; exact j1
  have e1 := putS_get (s := s) (j := j) hb (by omega)
  have e2 := appS_get lost (s := s) (m := m) (k := 0) (i := j) j1' (by omega)
  rw [movedS_get j1' (by omega)] at e1
  rw [Int.zero_add, ← e1] at e2
  rw [List.getD_eq_getElem?_getD, List.getD_eq_getElem?_getD, List.getElem?_eq_getElem j1, List.getElem?_eq_getElem j2] at e2
  exact e2.symm
def L_rst0 : Lay := { slots := [(1, .val tIs), (3, .val tIs), (13, .row 3 tI), (14, .val tI)] }
def L_rst0_0 : Lay := { slots := [(8, .nils), (9, .val tI)] }
def L_rst0_1 : Lay := { slots := [(13, .row 3 tI)] }
def X_rst0 : Exit → St → Option Lay
  | .ret, _ => some L_rst0_0
  | .exit 0, _ => some L_rst0_1
  | _, _ => none
abbrev C_rst0 : Code := loopC (bodyOf Try.f53) 0
theorem B_rst0 (s lost r : List Int) (i : Int) : loopBodyA (P := P) [] (lpOf []) [] 71 noU (inner C_rst0) L_rst0 X_rst0 (α := List Int × List Int × List Int × Int × Unit) (fun x => x) (fun x => x) (s, lost, r, i, ()) =
  Tree.cond (decide (i < (↑(List.length lost) : Int))) (Tree.need ((0 : Int) ≤ i ∧ i < (↑(List.length lost) : Int)) (Tree.cond (decide (List.getD lost (Int.toNat i) (0 : Int) < (0 : Int))) (Tree.leaf (Sum.inr (Exit.ret, Lay.st L_rst0_0 noU (PUnit.unit, (7 : Int), PUnit.unit)))) (Tree.need ((0 : Int) ≤ i ∧ i < (↑(List.length lost) : Int)) (Tree.cond (decide (List.getD lost (Int.toNat i) (0 : Int) ≥ (↑(List.length s) : Int))) (Tree.leaf (Sum.inr (Exit.ret, Lay.st L_rst0_0 noU (PUnit.unit, (7 : Int), PUnit.unit)))) (Tree.need ((0 : Int) ≤ i ∧ i < (↑(List.length lost) : Int)) (Tree.need ((0 : Int) ≤ i ∧ i < (↑(List.length lost) : Int)) (Tree.need ((0 : Int) ≤ List.getD lost (Int.toNat i) (0 : Int) ∧ List.getD lost (Int.toNat i) (0 : Int) < (↑(List.length s) : Int)) (Tree.need ((0 : Int) ≤ List.getD lost (Int.toNat i) (0 : Int) ∧ List.getD lost (Int.toNat i) (0 : Int) < (↑(List.length r) : Int)) (Tree.need (Int.toNat (List.getD lost (Int.toNat i) (0 : Int)) < List.length r) (Tree.leaf (Sum.inl (s, lost, List.set r (Int.toNat (List.getD lost (Int.toNat i) (0 : Int))) (List.getD s (Int.toNat (List.getD lost (Int.toNat i) (0 : Int))) (0 : Int)), IntKind.wrap IntKind.i64 (i + (1 : Int)), PUnit.unit)))))))))))) (Tree.leaf (Sum.inr (Exit.exit (0 : Nat), Lay.st L_rst0_1 noU (r, PUnit.unit)))) := by kernel_rfl

def inv_rst0 : List Int × List Int × List Int × Int × Unit → Prop := fun (s, lost, r, i, ()) => 0 ≤ i ∧ i ≤ lost.length ∧ (lost.length : Int) < 2 ^ 62 ∧ r.length = s.length ∧ 1 ≤ s.length ∧ s.length ≤ 4
def O_rst0 : List Int × List Int × List Int × Int × Unit → Tree (Exit × St) := fun (s, lost, r, i, ()) => .cond ((lost.drop i.toNat).any (badL s)) (.leaf (.ret, L_rst0_0.st noU ((), ((7 : Int)), ()))) (.leaf (.exit 0, L_rst0_1.st noU ((putS s (lost.drop i.toNat) r), ())))
def R_rst0 : LRun := runOf 71 L_rst0 (fun x => x) (inv_rst0) (O_rst0)
theorem K_rst0 : LoopOk P [] 71 none noU C_rst0 (R_rst0) := by
  refine loop_of hm (cx := []) [] (xl := X_rst0) (α := List Int × List Int × List Int × Int × Unit) (fun x => x) (fun (s, lost, r, i, ()) => ((lost.length : Int) - i).toNat) (fun _ => rfl) (by kernel_rfl) (by kernel_rfl) ?_ (by kernel_rfl) trivial ?_
  · intro e S L' h
    unfold X_rst0 at h
    split at h <;> first | (cases h; done) | (cases h; kernel_rfl) | (rcases bif_some h with h | h <;> cases h <;> kernel_rfl)
  · rintro ⟨s, lost, r, i, ⟨⟩⟩ hinv Q hQ
    refine hold_of_eq (B_rst0 s lost r i) ?_

    obtain ⟨h0, h1, h2, h3, h4, h5⟩ := hinv
    rw [W_id (n := i + 1) (by omega) (by omega)]
    have hQ1 : (lost.drop i.toNat).any (badL s) = true → Q (.ret, L_rst0_0.st noU ((), (7 : Int), ())) := hQ.1
    have hQ2 : (lost.drop i.toNat).any (badL s) = false → Q (.exit 0, L_rst0_1.st noU (putS s (lost.drop i.toNat) r, ())) := hQ.2
    refine ⟨fun c1 => ?_, fun c1 => ?_⟩
    · have d1 : i < lost.length := of_decide_eq_true c1
      have hm : ((lost.length : Int) - (i + 1)).toNat < ((lost.length : Int) - i).toNat := by omega
      have hb := badL_iff (x := lost.getD i.toNat 0) h4 h5
      rw [putS_step h0 d1, drop_step (0 : Int) h0 d1, List.any_cons] at hQ2
      rw [drop_step (0 : Int) h0 d1, List.any_cons] at hQ1
      refine ⟨⟨h0, d1⟩, fun c2 => ?_, fun c2 => ⟨⟨h0, d1⟩, fun c3 => ?_, fun c3 => ?_⟩⟩
      · exact hQ1 (by rw [hb.2 (.inl (of_decide_eq_true c2)), Bool.true_or])
      · exact hQ1 (by rw [hb.2 (.inr (of_decide_eq_true c3)), Bool.true_or])
      · have d2 := of_decide_eq_false c2
        have d3 := of_decide_eq_false c3
        have hbf : badL s (lost.getD i.toNat 0) = false := by
          cases e : badL s (lost.getD i.toNat 0) with
          | false => rfl
          | true => rcases hb.1 e with h | h <;> omega
        rw [hbf, Bool.false_or] at hQ1 hQ2
        refine ⟨⟨h0, d1⟩, ⟨h0, d1⟩, ⟨by omega, by omega⟩, ⟨by omega, by omega⟩, by omega, ⟨⟨by omega, by omega, h2, by rw [List.length_set]; exact h3, h4, h5⟩, hm⟩, hQ1, hQ2⟩
    · have e := drop_end (of_decide_eq_false c1)
      rw [e] at hQ2
      exact hQ2 rfl
def L_rStep : Lay := { slots := [(0, .agg (.pair tIs (.sl (.pair tI (.pair tI (.pair tI tV)))))), (1, .val tIs), (2, .val tIs), (3, .val tIs)] }
theorem T_rStep (s0_0 : List Int) (s0_1 : List (Int × (Int × (Int × V)))) (s m lost : List Int) : mTree (P := P) [c_rState.gc, c_rmoveW.gc, c_rAllowed.gc, c_movedX.gc] (lpOf [(0, R_rst0)]) Try.f53 L_rStep true ((s0_0, s0_1), s, m, lost, ()) =
  Tree.need ((↑(List.length s) : Int) < (2 : Int) ^ (62 : Nat)) (Tree.cond (stateS (s0_0, s0_1) s != (0 : Int)) (Tree.leaf { res := SV.tup [SV.nils, SV.int IntKind.i64 (stateS (s0_0, s0_1) s)], boxes := [] }) (Tree.need ((↑(List.length m) : Int) ≤ (9223372036854775807 : Int)) (Tree.cond (!moveS (s0_0, s0_1) m) (Tree.leaf { res := SV.tup [SV.nils, SV.int IntKind.i64 (3 : Int)], boxes := [] }) (Tree.need ((↑(List.length s) : Int) < (2 : Int) ^ (62 : Nat) ∧ (↑(List.length m) : Int) < (2 : Int) ^ (62 : Nat)) (Tree.cond (!(allowS (s0_0, s0_1) s m).fst) (Tree.leaf { res := SV.tup [SV.nils, SV.int IntKind.i64 (12 : Int)], boxes := [] }) (Tree.need (List.length s ≤ List.length m ∧ List.length s ≤ (1000 : Nat)) (Tree.need (inv_rst0 (s, lost, movedS s m, (0 : Int), ())) (Tree.cond (List.any (List.drop (Int.toNat (0 : Int)) lost) (badL s)) (Tree.leaf { res := SV.tup [SV.nils, SV.int IntKind.i64 (7 : Int)], boxes := [] }) (Tree.leaf { res := SV.tup [SV.own (nat_lit 100), SV.int IntKind.i64 (0 : Int)], boxes := [], news := [Ob.row (3 : TypeId) tI (putS s (List.drop (Int.toNat (0 : Int)) lost) (movedS s m))] }))))))))) := by kernel_rfl

def c_rStep : XC P := XC.of (α := (List Int × List (Int × (Int × (Int × V)))) × List Int × List Int × List Int × Unit) 53 L_rStep (fun x => x) (fun x => x) (fun _ => rfl)
  (fun x => some ((x.2.1.length : Int) < 2 ^ 62 ∧ (x.2.2.1.length : Int) ≤ 9223372036854775807 ∧ (x.2.2.2.1.length : Int) < 2 ^ 62))
  (fun x => ⟨.tup [.own 100, .int .i64 (stepS x.1 x.2.1 x.2.2.1 x.2.2.2.1).2], [], [.row 3 tI (stepS x.1 x.2.1 x.2.2.1 x.2.2.2.1).1]⟩) (by kernel_rfl) (by kernel_rfl) (by
    rintro ⟨⟨s0_0, s0_1⟩, s, m, lost, ⟨⟩⟩ hp
    refine m_nil hm (own := true) (by kernel_rfl) (by kernel_rfl) (by kernel_rfl) (T_rStep s0_0 s0_1 s m lost) ⟨K_rst0, trivial⟩ (by kernel_rfl) ?_

    try dsimp only at hp
    try dsimp only
    obtain ⟨p0, p1, p2⟩ : (s.length : Int) < 2 ^ 62 ∧ (m.length : Int) ≤ 9223372036854775807 ∧ (lost.length : Int) < 2 ^ 62 := hp
    have pm : moveS (s0_0, s0_1) m = true → stateS (s0_0, s0_1) s = 0 → (m.length : Int) < 2 ^ 62 := fun c h => by
      have ml := moveS_len c
      have l4 := (stOk_of h).l4
      dsimp only at ml l4
      omega
    have bad : ∀ e : Int, stepS (s0_0, s0_1) s m lost = ([], e) → (fun q : MOut => q = ⟨.tup [.own 100, .int .i64 (stepS (s0_0, s0_1) s m lost).2], [], [.row 3 tI (stepS (s0_0, s0_1) s m lost).1]⟩ ∨ (q.boxes = [] ∧ q.news = [] ∧ (stepS (s0_0, s0_1) s m lost).1 = [] ∧ NilS q.res (.tup [.own 100, .int .i64 (stepS (s0_0, s0_1) s m lost).2]))) ⟨.tup [.nils, .int .i64 e], [], []⟩ := fun e h => .inr ⟨rfl, rfl, by rw [h], by rw [h]; simp [NilS, NilL, newBase, isData]⟩
    refine ⟨p0, fun c1 => ?_, fun c1 => ⟨p1, fun c2 => ?_, fun c2 => ⟨⟨p0, pm (by simpa using c2) (by simpa using c1)⟩, fun c3 => ?_, fun c3 => ?_⟩⟩⟩
    · have d1 : stateS (s0_0, s0_1) s ≠ 0 := by simpa using c1
      exact bad _ (by unfold stepS; rw [if_pos d1])
    all_goals
      have d1 : stateS (s0_0, s0_1) s = 0 := by simpa using c1
    · have d2 : moveS (s0_0, s0_1) m = false := by simpa using c2
      exact bad _ (by unfold stepS; rw [if_neg (by rw [d1]; simp), if_pos d2])
    all_goals
      have d2 : moveS (s0_0, s0_1) m = true := by simpa using c2
    · have d3 : (allowS (s0_0, s0_1) s m).1 = false := by simpa using c3
      exact bad _ (by unfold stepS; rw [if_neg (by rw [d1]; simp), if_neg (by rw [d2]; simp), if_pos d3])
    have d3 : (allowS (s0_0, s0_1) s m).1 = true := by simpa using c3
    have hs := stOk_of d1
    have l2 := hs.l2
    have l4 := hs.l4
    have sl := hs.sl
    have ml := moveS_len d2
    dsimp only at l2 l4 sl ml
    refine ⟨⟨by omega, by omega⟩, ⟨by decide, by omega, p2, by rw [movedS_len (by omega)], by omega, by omega⟩, fun c4 => ?_, fun c4 => ?_⟩
    · have d4 : lost.any (badL s) = true := c4
      exact bad _ (by unfold stepS; rw [if_neg (by rw [d1]; simp), if_neg (by rw [d2]; simp), if_neg (by rw [d3]; simp), if_pos d4])
    · have d4 : lost.any (badL s) = false := c4
      have e : stepS (s0_0, s0_1) s m lost = (appS lost s m 0, 0) := by unfold stepS; rw [if_neg (by rw [d1]; simp), if_neg (by rw [d2]; simp), if_neg (by rw [d3]; simp), if_neg (by rw [d4]; simp)]
      have ef : putS s lost (movedS s m) = appS lost s m 0 := put_app (by omega) (by omega) (by omega) d4
      rw [e, ← ef]
      exact .inl rfl)
def L_rfol0 : Lay := { slots := [(2, .val (.sl tIs)), (3, .ptr 4045 0), (10, .row 3 tI), (11, .val tI)], boxes := [(4045, [.val tIs, .val (.sl (.pair tI (.pair tI (.pair tI tV))))])] }
def L_rfol0_0 : Lay := { slots := [(6, .val tI), (7, .row 3 tI), (8, .val tI)] }
def L_rfol0_1 : Lay := { slots := [(10, .row 3 tI)] }
def X_rfol0 : Exit → St → Option Lay
  | .ret, _ => some L_rfol0_0
  | .exit 0, _ => some L_rfol0_1
  | _, _ => none
abbrev C_rfol0 : Code := loopC (bodyOf Try.f55) 0
theorem B_rfol0 (pl : List (List Int)) (now : List Int) (i : Int) (ps : List Int) (bs : List (Int × (Int × (Int × V)))) : loopBodyA (P := P) [c_rStep.gc] (lpOf []) [] 45 noU (inner C_rfol0) L_rfol0 X_rfol0 (α := List (List Int) × Unit × List Int × Int × List Int × List (Int × (Int × (Int × V))) × Unit) (fun x => x) (fun x => x) (pl, (), now, i, ps, bs, ()) =
  Tree.cond (decide (i < (↑(List.length pl) : Int))) (Tree.need ((0 : Int) ≤ i ∧ i < (↑(List.length pl) : Int)) (Tree.need ((↑(List.length now) : Int) < (2 : Int) ^ (62 : Nat) ∧ (↑(List.length (List.getD pl (Int.toNat i) [])) : Int) ≤ (9223372036854775807 : Int) ∧ (↑(0 : Nat) : Int) < (2 : Int) ^ (62 : Nat)) (Tree.cond ((stepS (ps, bs) now (List.getD pl (Int.toNat i) []) []).snd != (0 : Int)) (Tree.leaf (Sum.inr (Exit.ret, Lay.st L_rfol0_0 noU (i, now, (0 : Int), PUnit.unit)))) (Tree.leaf (Sum.inl (pl, PUnit.unit, (stepS (ps, bs) now (List.getD pl (Int.toNat i) []) []).fst, IntKind.wrap IntKind.i64 (i + (1 : Int)), ps, bs, PUnit.unit)))))) (Tree.leaf (Sum.inr (Exit.exit (0 : Nat), Lay.st L_rfol0_1 noU (now, PUnit.unit)))) := by kernel_rfl

def inv_rfol0 : List (List Int) × Unit × List Int × Int × List Int × List (Int × (Int × (Int × V))) × Unit → Prop := fun (pl, (), now, i, ps, bs, ()) => 0 ≤ i ∧ i ≤ pl.length ∧ (pl.length : Int) < 2 ^ 62 ∧ (now.length : Int) < 2 ^ 62 ∧ ∀ m ∈ pl, (m.length : Int) ≤ 9223372036854775807
def O_rfol0 : List (List Int) × Unit × List Int × Int × List Int × List (Int × (Int × (Int × V))) × Unit → Tree (Exit × St) := fun (pl, (), now, i, ps, bs, ()) => .cond (folOk (ps, bs) (pl.drop i.toNat) i now) (.leaf (.exit 0, L_rfol0_1.st noU ((folA (ps, bs) (pl.drop i.toNat) i now), ()))) (.leaf (.ret, L_rfol0_0.st noU ((folI (ps, bs) (pl.drop i.toNat) i now), (folA (ps, bs) (pl.drop i.toNat) i now), ((0 : Int)), ())))
def R_rfol0 : LRun := runOf 45 L_rfol0 (fun x => x) (inv_rfol0) (O_rfol0)
theorem K_rfol0 : LoopOk P [] 45 none noU C_rfol0 (R_rfol0) := by
  refine loop_of hm (cx := [c_rStep.gc]) [] (xl := X_rfol0) (α := List (List Int) × Unit × List Int × Int × List Int × List (Int × (Int × (Int × V))) × Unit) (fun x => x) (fun (pl, (), now, i, ps, bs, ()) => ((pl.length : Int) - i).toNat) (fun _ => rfl) (by kernel_rfl) (by kernel_rfl) ?_ (by kernel_rfl) trivial ?_
  · intro e S L' h
    unfold X_rfol0 at h
    split at h <;> first | (cases h; done) | (cases h; kernel_rfl) | (rcases bif_some h with h | h <;> cases h <;> kernel_rfl)
  · rintro ⟨pl, ⟨⟩, now, i, ps, bs, ⟨⟩⟩ hinv Q hQ
    refine hold_of_eq (B_rfol0 pl now i ps bs) ?_

    obtain ⟨h0, h1, h2, h3, h4⟩ := hinv
    rw [W_id (n := i + 1) (by omega) (by omega)]
    have hQ1 : folOk (ps, bs) (pl.drop i.toNat) i now = true → Q (.exit 0, L_rfol0_1.st noU (folA (ps, bs) (pl.drop i.toNat) i now, ())) := hQ.1
    have hQ2 : folOk (ps, bs) (pl.drop i.toNat) i now = false → Q (.ret, L_rfol0_0.st noU (folI (ps, bs) (pl.drop i.toNat) i now, folA (ps, bs) (pl.drop i.toNat) i now, (0 : Int), ())) := hQ.2
    refine ⟨fun c1 => ?_, fun c1 => ?_⟩
    · have d1 : i < pl.length := of_decide_eq_true c1
      have hm : ((pl.length : Int) - (i + 1)).toNat < ((pl.length : Int) - i).toNat := by omega
      refine ⟨⟨h0, d1⟩, ⟨h3, h4 _ (getD_mem (d := ([] : List Int)) (show i.toNat < pl.length by omega)), by decide⟩, fun c2 => ?_, fun c2 => ?_⟩
      · have d2 : (stepS (ps, bs) now (pl.getD i.toNat []) []).2 ≠ 0 := by simpa using c2
        obtain ⟨e1, e2, e3⟩ := fol_stop h0 d1 d2
        have := hQ2 e1
        rw [e2, e3] at this
        exact this
      · have d2 : (stepS (ps, bs) now (pl.getD i.toNat []) []).2 = 0 := by simpa using c2
        obtain ⟨e1, e2, e3⟩ := fol_go h0 d1 d2
        rw [e1, e3] at hQ1
        rw [e1, e2, e3] at hQ2
        have hl := stepS_len (ps, bs) now (pl.getD i.toNat []) []
        exact ⟨⟨⟨by omega, by omega, h2, by omega, h4⟩, hm⟩, hQ1, hQ2⟩
    · obtain ⟨e1, e2⟩ := fol_end (r := (ps, bs)) (s := now) (of_decide_eq_false c1)
      have := hQ1 e1
      rw [e2] at this
      exact this
def L_rFollow : Lay := { slots := [(0, .agg (.pair tIs (.sl (.pair tI (.pair tI (.pair tI tV)))))), (1, .val tIs), (2, .val (.sl tIs))] }
theorem T_rFollow (s0_0 : List Int) (s0_1 : List (Int × (Int × (Int × V)))) (s : List Int) (pl : List (List Int)) : mTree (P := P) [c_rState.gc, c_rStep.gc] (lpOf [(0, R_rfol0)]) Try.f55 L_rFollow true ((s0_0, s0_1), s, pl, ()) =
  Tree.need ((↑(List.length s) : Int) < (2 : Int) ^ (62 : Nat)) (Tree.cond (stateS (s0_0, s0_1) s != (0 : Int)) (Tree.leaf { res := SV.tup [SV.int IntKind.i64 (0 : Int), SV.nils, SV.int IntKind.i64 (stateS (s0_0, s0_1) s)], boxes := [] }) (Tree.need (((0 : Nat) + List.length s) * (8 : Nat) ≤ (140737488355328 : Nat)) (Tree.need (inv_rfol0 (pl, (), s, (0 : Int), s0_0, s0_1, ())) (Tree.cond (folOk (s0_0, s0_1) (List.drop (Int.toNat (0 : Int)) pl) (0 : Int) s) (Tree.leaf { res := SV.tup [SV.int IntKind.i64 (-1 : Int), SV.own (nat_lit 100), SV.int IntKind.i64 (0 : Int)], boxes := [], news := [Ob.row (3 : TypeId) tI (folA (s0_0, s0_1) (List.drop (Int.toNat (0 : Int)) pl) (0 : Int) s)] }) (Tree.leaf { res := SV.tup [SV.int IntKind.i64 (folI (s0_0, s0_1) (List.drop (Int.toNat (0 : Int)) pl) (0 : Int) s), SV.own (nat_lit 100), SV.int IntKind.i64 (0 : Int)], boxes := [], news := [Ob.row (3 : TypeId) tI (folA (s0_0, s0_1) (List.drop (Int.toNat (0 : Int)) pl) (0 : Int) s)] }))))) := by kernel_rfl

def c_rFollow : XC P := XC.of (α := (List Int × List (Int × (Int × (Int × V)))) × List Int × List (List Int) × Unit) 55 L_rFollow (fun x => x) (fun x => x) (fun _ => rfl)
  (fun x => some ((x.2.1.length : Int) < 2 ^ 62 ∧ (x.2.2.1.length : Int) < 2 ^ 62 ∧ ∀ m ∈ x.2.2.1, (m.length : Int) ≤ 9223372036854775807))
  (fun x => ⟨.tup [.int .i64 (followS x.1 x.2.1 x.2.2.1).1, .own 100, .int .i64 (followS x.1 x.2.1 x.2.2.1).2.2], [], [.row 3 tI (followS x.1 x.2.1 x.2.2.1).2.1]⟩) (by kernel_rfl) (by kernel_rfl) (by
    rintro ⟨⟨s0_0, s0_1⟩, s, pl, ⟨⟩⟩ hp
    refine m_nil hm (own := true) (by kernel_rfl) (by kernel_rfl) (by kernel_rfl) (T_rFollow s0_0 s0_1 s pl) ⟨K_rfol0, trivial⟩ (by kernel_rfl) ?_

    try dsimp only at hp
    try dsimp only
    obtain ⟨p0, p1, p2⟩ : (s.length : Int) < 2 ^ 62 ∧ (pl.length : Int) < 2 ^ 62 ∧ ∀ m ∈ pl, (m.length : Int) ≤ 9223372036854775807 := hp
    have bad : ∀ e : Int, followS (s0_0, s0_1) s pl = (0, [], e) → (fun q : MOut => q = ⟨.tup [.int .i64 (followS (s0_0, s0_1) s pl).1, .own 100, .int .i64 (followS (s0_0, s0_1) s pl).2.2], [], [.row 3 tI (followS (s0_0, s0_1) s pl).2.1]⟩ ∨ (q.boxes = [] ∧ q.news = [] ∧ (followS (s0_0, s0_1) s pl).2.1 = [] ∧ NilS q.res (.tup [.int .i64 (followS (s0_0, s0_1) s pl).1, .own 100, .int .i64 (followS (s0_0, s0_1) s pl).2.2]))) ⟨.tup [.int .i64 0, .nils, .int .i64 e], [], []⟩ := fun e h => .inr ⟨rfl, rfl, by rw [h], by rw [h]; simp [NilS, NilL, newBase, isData]⟩
    refine ⟨p0, fun c1 => ?_, fun c1 => ?_⟩
    · have d1 : stateS (s0_0, s0_1) s ≠ 0 := by simpa using c1
      exact bad _ (by unfold followS; rw [if_pos d1])
    have d1 : stateS (s0_0, s0_1) s = 0 := by simpa using c1
    have hs := stOk_of d1
    have l2 := hs.l2
    have l4 := hs.l4
    have sl := hs.sl
    dsimp only at l2 l4 sl
    have hF : followS (s0_0, s0_1) s pl = (folI (s0_0, s0_1) pl 0 s, folA (s0_0, s0_1) pl 0 s, 0) := by unfold followS folI folA; rw [if_neg (by rw [d1]; simp)]
    rw [hF]
    refine ⟨by show (0 + s.length) * 8 ≤ 140737488355328; omega, ⟨by decide, by omega, p1, p0, p2⟩, fun c2 => ?_, fun c2 => ?_⟩
    · have e1 : folI (s0_0, s0_1) pl 0 s = -1 := of_decide_eq_true c2
      rw [e1]
      exact .inl rfl
    · exact .inl rfl)

end
end Go.MR
