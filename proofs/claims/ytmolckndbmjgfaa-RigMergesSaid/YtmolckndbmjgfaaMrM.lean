/- Rigs: goals, ticks, the next move, readiness. -/
import Derived.Test.YtmolckndbmjgfaaMrL
namespace Go.MR
open Go Go.Sx Go.Proofs
set_option linter.unusedVariables false
set_option linter.unusedSimpArgs false
noncomputable section
def spanBad (p : Int) (g : Int × Int) : Bool := decide (g.1 < 0) || decide (g.1 > g.2) || decide (g.2 ≥ p)
def spansE : List Int → List (Int × Int) → Bool
  | p :: ps, g :: gs => spanBad p g || spansE ps gs
  | _, _ => false
theorem spansE_nil (ps : List Int) : spansE ps [] = false := by cases ps <;> rfl
theorem spansE_step {ps : List Int} {g : List (Int × Int)} {i : Int} (h0 : 0 ≤ i) (h : i < g.length) (h2 : i < ps.length) : spansE (ps.drop i.toNat) (g.drop i.toNat) = (spanBad (ps.getD i.toNat 0) (g.getD i.toNat (0, 0)) || spansE (ps.drop (i + 1).toNat) (g.drop (i + 1).toNat)) := by
  rw [drop_step ((0, 0) : Int × Int) h0 h, drop_step (0 : Int) h0 h2, spansE]
def goalS (r : Rig) (g : List (Int × Int)) : Int :=
  if checkS r ≠ 0 then checkS r else if (g.length : Int) ≠ r.1.length then 3 else if spansE r.1 g = true then 2 else 0
def L_cg0 : Lay := { slots := [(2, .ptr 3047 0), (19, .val (.sl tPart)), (20, .val tI), (21, .val tI)], boxes := [(3047, [.val tIs, .val (.sl (.pair tI (.pair tI (.pair tI tV))))])] }
def L_cg0_0 : Lay := { slots := [(4, .val tI)] }
def L_cg0_1 : Lay := { slots := [] }
def X_cg0 : Exit → St → Option Lay
  | .ret, _ => some L_cg0_0
  | .exit 0, _ => some L_cg0_1
  | _, _ => none
abbrev C_cg0 : Code := loopC (bodyOf Try.f46) 0
theorem B_cg0 (l : List (Int × Int)) (n i : Int) (ps : List Int) (bs : List (Int × (Int × (Int × V)))) : loopBodyA (P := P) [] (lpOf []) [] 47 noU (inner C_cg0) L_cg0 X_cg0 (α := Unit × List (Int × Int) × Int × Int × List Int × List (Int × (Int × (Int × V))) × Unit) (fun x => x) (fun x => x) ((), l, n, i, ps, bs, ()) =
  Tree.cond (decide (i < n)) (Tree.need ((0 : Int) ≤ i ∧ i < (↑(List.length l) : Int)) (Tree.cond (decide ((List.getD l (Int.toNat i) ((0 : Int), (0 : Int))).fst < (0 : Int))) (Tree.leaf (Sum.inr (Exit.ret, Lay.st L_cg0_0 noU ((2 : Int), PUnit.unit)))) (Tree.cond (decide ((List.getD l (Int.toNat i) ((0 : Int), (0 : Int))).fst > (List.getD l (Int.toNat i) ((0 : Int), (0 : Int))).snd)) (Tree.leaf (Sum.inr (Exit.ret, Lay.st L_cg0_0 noU ((2 : Int), PUnit.unit)))) (Tree.need ((0 : Int) ≤ i ∧ i < (↑(List.length ps) : Int)) (Tree.cond (decide ((List.getD l (Int.toNat i) ((0 : Int), (0 : Int))).snd ≥ List.getD ps (Int.toNat i) (0 : Int))) (Tree.leaf (Sum.inr (Exit.ret, Lay.st L_cg0_0 noU ((2 : Int), PUnit.unit)))) (Tree.leaf (Sum.inl (PUnit.unit, l, n, IntKind.wrap IntKind.i64 (i + (1 : Int)), ps, bs, PUnit.unit)))))))) (Tree.leaf (Sum.inr (Exit.exit (0 : Nat), Lay.st L_cg0_1 noU PUnit.unit))) := by kernel_rfl
def inv_cg0 : Unit × List (Int × Int) × Int × Int × List Int × List (Int × (Int × (Int × V))) × Unit → Prop := fun ((), l, n, i, ps, bs, ()) => n = l.length ∧ 0 ≤ i ∧ i ≤ n ∧ (l.length : Int) ≤ 1000 ∧ l.length ≤ ps.length
def O_cg0 : Unit × List (Int × Int) × Int × Int × List Int × List (Int × (Int × (Int × V))) × Unit → Tree (Exit × St) := fun ((), l, n, i, ps, bs, ()) => .cond (spansE (ps.drop i.toNat) (l.drop i.toNat)) (.leaf (.ret, L_cg0_0.st noU (((2 : Int)), ()))) (.leaf (.exit 0, L_cg0_1.st noU ()))
def R_cg0 : LRun := runOf 47 L_cg0 (fun x => x) (inv_cg0) (O_cg0)
theorem K_cg0 : LoopOk P [] 47 none noU C_cg0 (R_cg0) := by
  refine loop_of hm (cx := []) [] (xl := X_cg0) (α := Unit × List (Int × Int) × Int × Int × List Int × List (Int × (Int × (Int × V))) × Unit) (fun x => x) (fun ((), l, n, i, ps, bs, ()) => (n - i).toNat) (fun _ => rfl) (by kernel_rfl) (by kernel_rfl) ?_ (by kernel_rfl) trivial ?_
  · intro e S L' h
    unfold X_cg0 at h
    split at h <;> first | (cases h; done) | (cases h; kernel_rfl) | (rcases bif_some h with h | h <;> cases h <;> kernel_rfl)
  · rintro ⟨⟨⟩, l, n, i, ps, bs, ⟨⟩⟩ hinv Q hQ
    refine hold_of_eq (B_cg0 l n i ps bs) ?_
    obtain ⟨rfl, h0, h1, h2, h3⟩ := hinv
    rw [W_id (n := i + 1) (by omega) (by omega)]
    unfold O_cg0 at hQ
    dsimp only at hQ
    refine ⟨fun c1 => ?_, fun c1 => ?_⟩
    · have d1 := of_decide_eq_true c1
      have hm : ((l.length : Int) - (i + 1)).toNat < ((l.length : Int) - i).toNat := by omega
      have b1 : i < ps.length := by omega
      rw [spansE_step h0 d1 b1] at hQ
      unfold spanBad at hQ
      refine ⟨⟨h0, d1⟩, fun c2 => ?_, fun c2 => ⟨fun c3 => ?_, fun c3 => ⟨⟨h0, b1⟩, fun c4 => ?_, fun c4 => ?_⟩⟩⟩
      · rw [show decide ((l.getD i.toNat (0, 0)).1 < 0) = true from c2, Bool.true_or, Bool.true_or, Bool.true_or] at hQ
        exact hQ.1 rfl
      · rw [show decide ((l.getD i.toNat (0, 0)).1 > (l.getD i.toNat (0, 0)).2) = true from c3, Bool.or_true, Bool.true_or, Bool.true_or] at hQ
        exact hQ.1 rfl
      · rw [show decide ((l.getD i.toNat (0, 0)).2 ≥ ps.getD i.toNat 0) = true from c4, Bool.or_true, Bool.true_or] at hQ
        exact hQ.1 rfl
      · rw [show decide ((l.getD i.toNat (0, 0)).1 < 0) = false from c2, show decide ((l.getD i.toNat (0, 0)).1 > (l.getD i.toNat (0, 0)).2) = false from c3, show decide ((l.getD i.toNat (0, 0)).2 ≥ ps.getD i.toNat 0) = false from c4, Bool.false_or, Bool.false_or, Bool.false_or] at hQ
        exact ⟨⟨⟨rfl, by omega, by omega, h2, h3⟩, hm⟩, hQ⟩
    · have d1 := of_decide_eq_false c1
      rw [drop_end d1, spansE_nil] at hQ
      exact hQ.2 rfl
theorem T_CheckGoal (s0_0 : List Int) (s0_1 : List (Int × (Int × (Int × V)))) (g : List (Int × Int)) : fnTree (P := P) [c_Check.gc] (lpOf [(0, R_cg0)]) Try.f46 (encL 0 [.agg (.pair tIs (.sl (.pair tI (.pair tI (.pair tI tV))))), .val (.sl tPart)] ((s0_0, s0_1), g, ())) =
  Tree.cond (checkS (s0_0, s0_1) != (0 : Int)) (Tree.leaf (SV.int IntKind.i64 (checkS (s0_0, s0_1)))) (Tree.cond ((↑(List.length g) : Int) != (↑(List.length s0_0) : Int)) (Tree.leaf (SV.int IntKind.i64 (3 : Int))) (Tree.need (inv_cg0 ((), g, (↑(List.length g) : Int), (0 : Int), s0_0, s0_1, ())) (Tree.cond (spansE (List.drop (Int.toNat (0 : Int)) s0_0) (List.drop (Int.toNat (0 : Int)) g)) (Tree.leaf (SV.int IntKind.i64 (2 : Int))) (Tree.leaf (SV.int IntKind.i64 (0 : Int)))))) := by kernel_rfl
def c_CheckGoal : PC P := PC.of (α := (List Int × List (Int × (Int × (Int × V)))) × List (Int × Int) × Unit) 46 [.agg (.pair tIs (.sl (.pair tI (.pair tI (.pair tI tV))))), .val (.sl tPart)] (fun x => x) (fun x => x) (fun _ => rfl)
  (fun _ => none)
  (fun x => .int .i64 (goalS x.1 x.2.1)) (by kernel_rfl) (by
    rintro ⟨⟨s0_0, s0_1⟩, g, ⟨⟩⟩ hp
    refine fn_of hm (by kernel_rfl) (by kernel_rfl) (T_CheckGoal s0_0 s0_1 g) ⟨K_cg0, trivial⟩ ?_
    try dsimp only at hp
    try dsimp only
    have fin : ∀ k : Int, goalS (s0_0, s0_1) g = k → SV.int .i64 k = SV.int .i64 (goalS (s0_0, s0_1) g) := fun k h => by rw [h]
    refine ⟨fun c1 => ?_, fun c1 => ⟨fun c2 => ?_, fun c2 => ⟨?_, fun c3 => ?_, fun c3 => ?_⟩⟩⟩
    · have d1 : checkS (s0_0, s0_1) ≠ 0 := by simpa using c1
      exact fin _ (by unfold goalS; rw [if_pos d1])
    all_goals
      have d1 : checkS (s0_0, s0_1) = 0 := by simpa using c1
      obtain ⟨k1, k2, k3, k4, k5⟩ := checkS_ok d1
      dsimp only at k1 k2 k3 k4 k5
    · have d2 : (g.length : Int) ≠ s0_0.length := by simpa using c2
      exact fin _ (by unfold goalS; rw [if_neg (by rw [d1]; simp), if_pos d2])
    all_goals
      have d2 : (g.length : Int) = s0_0.length := by simpa using c2
    · exact ⟨rfl, by decide, by omega, by omega, by omega⟩
    · have d3 : spansE s0_0 g = true := c3
      exact fin _ (by unfold goalS; rw [if_neg (by rw [d1]; simp), if_neg (by rw [d2]; simp), if_pos d3])
    · have d3 : spansE s0_0 g = false := c3
      exact fin _ (by unfold goalS; rw [if_neg (by rw [d1]; simp), if_neg (by rw [d2]; simp), if_neg (by rw [d3]; simp)]))
def askedS (r : Rig) (s : List Int) (g : List (Int × Int)) (losses : Int) : Int :=
  if stateS r s ≠ 0 then stateS r s else if goalS r g ≠ 0 then goalS r g else if wi losses 0 2 = false then 2 else 0
theorem T_asked (s0_0 : List Int) (s0_1 : List (Int × (Int × (Int × V)))) (s1 : List Int) (s2 : List (Int × Int)) (s3 : Int) : fnTree (P := P) [c_State.gc, c_CheckGoal.gc, c_within.gc] (lpOf []) Try.f70 (encL 0 [.agg (.pair tIs (.sl (.pair tI (.pair tI (.pair tI tV))))), .val tIs, .val (.sl tPart), .val tI] ((s0_0, s0_1), s1, s2, s3, ())) =
  Tree.cond (stateS (s0_0, s0_1) s1 != (0 : Int)) (Tree.leaf (SV.int IntKind.i64 (stateS (s0_0, s0_1) s1))) (Tree.cond (goalS (s0_0, s0_1) s2 != (0 : Int)) (Tree.leaf (SV.int IntKind.i64 (goalS (s0_0, s0_1) s2))) (Tree.cond (!wi s3 (0 : Int) (2 : Int)) (Tree.leaf (SV.int IntKind.i64 (2 : Int))) (Tree.leaf (SV.int IntKind.i64 (0 : Int))))) := by kernel_rfl
def c_asked : PC P := PC.of (α := (List Int × List (Int × (Int × (Int × V)))) × List Int × List (Int × Int) × Int × Unit) 70 [.agg (.pair tIs (.sl (.pair tI (.pair tI (.pair tI tV))))), .val tIs, .val (.sl tPart), .val tI] (fun x => x) (fun x => x) (fun _ => rfl)
  (fun _ => none)
  (fun x => .int .i64 (askedS x.1 x.2.1 x.2.2.1 x.2.2.2.1)) (by kernel_rfl) (by
    rintro ⟨⟨s0_0, s0_1⟩, s1, s2, s3, ⟨⟩⟩ hp
    refine fn_of hm (by kernel_rfl) (by kernel_rfl) (T_asked s0_0 s0_1 s1 s2 s3) trivial ?_
    try dsimp only at hp
    try dsimp only
    have fin : ∀ k : Int, askedS (s0_0, s0_1) s1 s2 s3 = k → SV.int .i64 k = SV.int .i64 (askedS (s0_0, s0_1) s1 s2 s3) := fun k h => by rw [h]
    refine ⟨fun c1 => ?_, fun c1 => ⟨fun c2 => ?_, fun c2 => ⟨fun c3 => ?_, fun c3 => ?_⟩⟩⟩
    · have d1 : stateS (s0_0, s0_1) s1 ≠ 0 := by simpa using c1
      exact fin _ (by unfold askedS; rw [if_pos d1])
    all_goals
      have d1 : stateS (s0_0, s0_1) s1 = 0 := by simpa using c1
    · have d2 : goalS (s0_0, s0_1) s2 ≠ 0 := by simpa using c2
      exact fin _ (by unfold askedS; rw [if_neg (by rw [d1]; simp), if_pos d2])
    all_goals
      have d2 : goalS (s0_0, s0_1) s2 = 0 := by simpa using c2
    · have d3 : wi s3 0 2 = false := by simpa using c3
      exact fin _ (by unfold askedS; rw [if_neg (by rw [d1]; simp), if_neg (by rw [d2]; simp), if_pos d3])
    · have d3 : wi s3 0 2 = true := by simpa using c3
      exact fin _ (by unfold askedS; rw [if_neg (by rw [d1]; simp), if_neg (by rw [d2]; simp), if_neg (by rw [d3]; simp)]))
theorem layR_len (ps : List Int) (bs : List Ban) (sf : List Bool) (many losses : Int) : ∀ (k : Nat) (layer : Int) (tk : List Int), (layR ps bs sf many losses k layer tk).length = tk.length
  | 0, _, _ => rfl
  | k + 1, layer, tk => by
    rw [layR]
    split
    · rfl
    · rw [layR_len, putL_len]
theorem cntTk_len (ps : List Int) (bs : List Ban) (g : List (Int × Int)) (losses : Int) : (cntTk ps bs g losses).length = 12288 := by
  unfold cntTk
  rw [layR_len]
  unfold init0
  rw [(initR_len ps bs g _ 0 _).1, List.length_replicate]
theorem goalS_ok {r : Rig} {g : List (Int × Int)} (h : goalS r g = 0) : checkS r = 0 ∧ g.length = r.1.length ∧ spansE r.1 g = false := by
  unfold goalS at h
  split at h
  · omega
  split at h
  · omega
  split at h
  · omega
  rename_i h1 h2 h3
  exact ⟨by omega, by omega, by simpa using h3⟩
theorem askedS_ok {r : Rig} {s : List Int} {g : List (Int × Int)} {losses : Int} (h : askedS r s g losses = 0) : checkS r = 0 ∧ StOk r.1 r.2 s ∧ g.length = r.1.length ∧ 0 ≤ losses ∧ losses ≤ 2 := by
  unfold askedS at h
  split at h
  · omega
  split at h
  · omega
  split at h
  · omega
  rename_i h1 h2 h3
  obtain ⟨a1, a2, a3⟩ := stateS_in (r := r) (s := s) (.inl (by omega))
  obtain ⟨k1, k2, k3, k4, k5⟩ := checkS_ok a1
  obtain ⟨g1, g2, g3⟩ := goalS_ok (r := r) (g := g) (by omega)
  have hw : wi losses 0 2 = true := by simpa using h3
  unfold wi at hw
  rw [Bool.and_eq_true, decide_eq_true_eq, decide_eq_true_eq] at hw
  exact ⟨a1, ⟨k1, k2, k3, a2, a3, k4, banEs_all k5⟩, g2, hw.1, hw.2⟩
def tickN (r : Rig) (s : List Int) (g : List (Int × Int)) (losses : Int) : Int := (cntTk r.1 r.2 g losses).getD (losses.toNat * 4096 + (numW r.1 s 0).toNat) 0
def ticksS (r : Rig) (s : List Int) (g : List (Int × Int)) (losses : Int) : Int × Int :=
  if askedS r s g losses ≠ 0 then (0, askedS r s g losses) else if tickN r s g losses < 0 then (0, 13) else (IntKind.wrap IntKind.i64 (tickN r s g losses), 0)
theorem T_Ticks (s0_0 : List Int) (s0_1 : List (Int × (Int × (Int × V)))) (s1 : List Int) (s2 : List (Int × Int)) (s3 : Int) : fnTree (P := P) [c_asked.gc, c_count.gc, c_number.gc] (lpOf []) Try.f22 (encL 0 [.agg (.pair tIs (.sl (.pair tI (.pair tI (.pair tI tV))))), .val tIs, .val (.sl tPart), .val tI] ((s0_0, s0_1), s1, s2, s3, ())) =
  Tree.cond (askedS (s0_0, s0_1) s1 s2 s3 != (0 : Int)) (Tree.leaf (SV.tup [SV.int IntKind.i64 (0 : Int), SV.int IntKind.i64 (askedS (s0_0, s0_1) s1 s2 s3)])) (Tree.need (checkS (s0_0, s0_1) = (0 : Int) ∧ List.length s2 = List.length s0_0 ∧ (0 : Int) ≤ s3 ∧ s3 ≤ (2 : Int)) (Tree.need (List.length s1 ≤ (1000 : Nat) ∧ List.length s1 ≤ List.length s0_0) (Tree.need ((0 : Int) ≤ s3 ∧ s3 < (↑(3 : Nat) : Int)) (Tree.need ((0 : Int) ≤ numW s0_0 s1 (0 : Int) ∧ numW s0_0 s1 (0 : Int) < (↑(4096 : Nat) : Int)) (Tree.need (Int.toNat s3 * (4096 : Nat) + Int.toNat (numW s0_0 s1 (0 : Int)) < List.length (cntTk s0_0 s0_1 s2 s3)) (Tree.cond (decide (List.getD (cntTk s0_0 s0_1 s2 s3) (Int.toNat s3 * (4096 : Nat) + Int.toNat (numW s0_0 s1 (0 : Int))) (0 : Int) < (0 : Int))) (Tree.leaf (SV.tup [SV.int IntKind.i64 (0 : Int), SV.int IntKind.i64 (13 : Int)])) (Tree.leaf (SV.tup [SV.int IntKind.i64 (IntKind.wrap IntKind.i64 (List.getD (cntTk s0_0 s0_1 s2 s3) (Int.toNat s3 * (4096 : Nat) + Int.toNat (numW s0_0 s1 (0 : Int))) (0 : Int))), SV.int IntKind.i64 (0 : Int)])))))))) := by kernel_rfl
def c_Ticks : PC P := PC.of (α := (List Int × List (Int × (Int × (Int × V)))) × List Int × List (Int × Int) × Int × Unit) 22 [.agg (.pair tIs (.sl (.pair tI (.pair tI (.pair tI tV))))), .val tIs, .val (.sl tPart), .val tI] (fun x => x) (fun x => x) (fun _ => rfl)
  (fun _ => none)
  (fun x => .tup [.int .i64 (ticksS x.1 x.2.1 x.2.2.1 x.2.2.2.1).1, .int .i64 (ticksS x.1 x.2.1 x.2.2.1 x.2.2.2.1).2]) (by kernel_rfl) (by
    rintro ⟨⟨s0_0, s0_1⟩, s1, s2, s3, ⟨⟩⟩ hp
    refine fn_of hm (by kernel_rfl) (by kernel_rfl) (T_Ticks s0_0 s0_1 s1 s2 s3) trivial ?_
    try dsimp only at hp
    try dsimp only
    have fin : ∀ k : Int × Int, ticksS (s0_0, s0_1) s1 s2 s3 = k → SV.tup [.int .i64 k.1, .int .i64 k.2] = SV.tup [.int .i64 (ticksS (s0_0, s0_1) s1 s2 s3).1, .int .i64 (ticksS (s0_0, s0_1) s1 s2 s3).2] := fun k h => by rw [h]
    refine ⟨fun c1 => ?_, fun c1 => ?_⟩
    · have d1 : askedS (s0_0, s0_1) s1 s2 s3 ≠ 0 := by simpa using c1
      exact fin (0, askedS (s0_0, s0_1) s1 s2 s3) (by unfold ticksS; rw [if_pos d1])
    · have d1 : askedS (s0_0, s0_1) s1 s2 s3 = 0 := by simpa using c1
      obtain ⟨a1, a2, a3, a4, a5⟩ := askedS_ok d1
      dsimp only at a1 a2 a3 a4 a5
      have hn := num_rng a2.pb a2.l4 a2.sl a2.si
      have htl := cntTk_len s0_0 s0_1 s2 s3
      have l4 := a2.l4
      have sl := a2.sl
      refine ⟨⟨a1, a3, a4, a5⟩, ⟨by omega, by omega⟩, ⟨a4, by omega⟩, ⟨by omega, by omega⟩, by omega, fun c2 => ?_, fun c2 => ?_⟩
      · have d2 : tickN (s0_0, s0_1) s1 s2 s3 < 0 := of_decide_eq_true c2
        exact fin (0, 13) (by unfold ticksS; rw [if_neg (by rw [d1]; simp), if_pos d2])
      · have d2 : ¬ tickN (s0_0, s0_1) s1 s2 s3 < 0 := of_decide_eq_false c2
        exact fin (_, 0) (by unfold ticksS; rw [if_neg (by rw [d1]; simp), if_neg d2]; rfl))
end
end Go.MR
