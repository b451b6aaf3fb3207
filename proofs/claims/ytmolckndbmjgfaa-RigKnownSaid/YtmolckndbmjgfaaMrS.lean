/- Rigs: what is made of numbers: states, goals, moves; comparisons. -/
import Derived.Test.YtmolckndbmjgfaaMrR
namespace Go.MR
open Go Go.Sx Go.Proofs
set_option linter.unusedVariables false
set_option linter.unusedSimpArgs false
noncomputable section
theorem smallP_badP {ps : List Int} (h : smallP ps) : ps.any badP = false := by
  cases e : ps.any badP with
  | false => rfl
  | true =>
    rw [List.any_eq_true] at e
    obtain ⟨p, hp, hb⟩ := e
    have := h p hp
    unfold badP wi at hb
    rw [decide_eq_true (by omega), decide_eq_true (by omega)] at hb
    cases hb
theorem banAt_ok {l ps : List Int} {k : Int} (h0 : 0 ≤ k) (h2 : 2 ≤ ps.length) (hs : smallP ps) : banE ps (banAt l ps k) = 0 := by
  unfold banAt
  dsimp only
  have r1 := rnS_rng (l := l) (k := k) (n := (ps.length : Int) - 1) h0 (by omega)
  have rb : 1 ≤ rnS l k ((ps.length : Int) - 1) + 1 ∧ rnS l k ((ps.length : Int) - 1) + 1 ≤ (ps.length : Int) - 1 := by omega
  generalize rnS l k ((ps.length : Int) - 1) + 1 = b at *
  have r2 := rnS_rng (l := l) (k := k + 1) (n := b) (by omega) (by omega)
  generalize rnS l (k + 1) b = a at *
  have pa := smallP_get hs (i := a.toNat) (by omega)
  have pb := smallP_get hs (i := b.toNat) (by omega)
  have ea : ps.getD a.toNat 0 = ps.getD a.toNat 0 := rfl
  generalize hqa : ps.getD a.toNat 0 = qa at *
  generalize hqb : ps.getD b.toNat 0 = qb at *
  have r3 := rnS_rng (l := l) (k := k + 1 + 1) (n := qa) (by omega) (by omega)
  have r4 := rnS_rng (l := l) (k := k + 1 + 1 + 1) (n := qb) (by omega) (by omega)
  generalize rnS l (k + 1 + 1) qa = u at *
  generalize rnS l (k + 1 + 1 + 1) qb = v at *
  have r5 := rnS_rng (l := l) (k := k + 1 + 1 + 1 + 1) (n := qa - u) (by omega) (by omega)
  have r6 := rnS_rng (l := l) (k := k + 1 + 1 + 1 + 1 + 1) (n := qb - v) (by omega) (by omega)
  generalize rnS l (k + 1 + 1 + 1 + 1) (qa - u) = u' at *
  generalize rnS l (k + 1 + 1 + 1 + 1 + 1) (qb - v) = v' at *
  unfold banE
  dsimp only
  rw [if_neg (by omega), if_neg (by rw [hqa, hqb]; omega)]
theorem bnR_ok {l ps : List Int} (h2 : 2 ≤ ps.length) (hs : smallP ps) : ∀ (n : Nat) (k : Int) (bs : List Ban), 0 ≤ k → (∀ b ∈ bs, banE ps b = 0) → (bnR l ps n k bs).length = bs.length + n ∧ ∀ b ∈ bnR l ps n k bs, banE ps b = 0
  | 0, _, bs, _, h => ⟨rfl, h⟩
  | n + 1, k, bs, h0, h => by
    obtain ⟨e1, e2⟩ := bnR_ok h2 hs n (k + 6) (bs ++ [banAt l ps k]) (by omega) (fun b hb => by
      rcases List.mem_append.1 hb with hb | hb
      · exact h b hb
      · rw [List.mem_singleton] at hb; rw [hb]; exact banAt_ok h0 h2 hs)
    rw [bnR]
    exact ⟨by rw [e1, List.length_append, List.length_singleton]; omega, e2⟩
theorem banEs_of {ps : List Int} : ∀ {bs : List Ban}, (∀ b ∈ bs, banE ps b = 0) → banEs ps bs = 0
  | [], _ => rfl
  | b :: bs, h => by
    rw [banEs, if_neg (by rw [h b (by simp)]; simp), banEs_of (fun x hx => h x (List.mem_cons_of_mem _ hx))]
structure KRig (r : Rig) : Prop where
  l2 : 2 ≤ r.1.length
  l3 : r.1.length ≤ 3
  sm : smallP r.1
  bl : r.2.length ≤ 4
  ck : checkS r = 0
theorem kRig_ok {l : List Int} {k : Int} (h0 : 0 ≤ k) : KRig (kRig l k) ∧ k ≤ kRigK l k ∧ kRigK l k ≤ k + 40 := by
  have r1 := rnS_rng (l := l) (k := k) (n := 2) h0 (by decide)
  have r2 := rnS_rng (l := l) (k := k + 1 + (2 + rnS l k 2)) (n := 5) (by omega) (by decide)
  obtain ⟨q1, q2⟩ := plR_ok l (2 + rnS l k 2).toNat (k + 1) [] (by omega) (fun p hp => by cases hp)
  rw [List.length_nil] at q1
  have a1 : 2 ≤ (kpsS l k).length := by unfold kpsS; omega
  have a2 : (kpsS l k).length ≤ 3 := by unfold kpsS; omega
  have a3 : smallP (kpsS l k) := q2
  obtain ⟨b1, b2⟩ := bnR_ok (l := l) a1 a3 (rnS l (k + 1 + (2 + rnS l k 2)) 5).toNat (k + 1 + (2 + rnS l k 2) + 1) [] (by omega) (fun b hb => by cases hb)
  rw [List.length_nil] at b1
  have c2 : (kRig l k).2.length ≤ 4 := by unfold kRig; dsimp only; omega
  refine ⟨⟨a1, a2, a3, c2, ?_⟩, by unfold kRigK; omega, by unfold kRigK; omega⟩
  have e1 : (kRig l k).1 = kpsS l k := rfl
  unfold checkS
  rw [e1, smallP_badP a3, if_neg (by omega), if_neg (by omega), if_neg (by simp), if_neg (by omega)]
  exact banEs_of b2
theorem KRig.rg {r : Rig} (h : KRig r) : RgOk r.1 r.2 := ⟨h.l2, by have := h.l3; omega, smallP_badP h.sm⟩
def plcS (l : List Int) : List Int → Int → List Int
  | q :: ps, k => rnS l k q :: plcS l ps (k + 1)
  | [], _ => []
theorem plcS_nil (l : List Int) (k : Int) : plcS l [] k = [] := rfl
theorem plcS_step {l ps : List Int} {i k : Int} (h0 : 0 ≤ i) (h : i < ps.length) : plcS l (ps.drop i.toNat) k = rnS l k (ps.getD i.toNat 0) :: plcS l (ps.drop (i + 1).toNat) (k + 1) := by
  rw [drop_step (0 : Int) h0 h, plcS]
theorem plcS_ok {l : List Int} : ∀ {ps : List Int} {k : Int}, 0 ≤ k → smallP ps → (plcS l ps k).length = ps.length ∧ inR (plcS l ps k) ps = true
  | [], _, _, _ => ⟨rfl, rfl⟩
  | q :: ps, k, h0, hs => by
    have hq := hs q (by simp)
    have r := rnS_rng (l := l) (k := k) (n := q) h0 (by omega)
    obtain ⟨e1, e2⟩ := plcS_ok (l := l) (ps := ps) (k := k + 1) (by omega) (fun p hp => hs p (List.mem_cons_of_mem _ hp))
    rw [plcS]
    refine ⟨by simp [e1], ?_⟩
    rw [inR, e2, decide_eq_true r.1, decide_eq_true r.2]
    rfl
def tryS (l : List Int) (r : Rig) : Nat → Int → List Int → List Int × Int
  | 0, k, s => (s, k)
  | n + 1, k, _ => if stateS r (plcS l r.1 k) = 0 then (plcS l r.1 k, k + r.1.length) else tryS l r n (k + r.1.length) (plcS l r.1 k)
def tryB (l : List Int) (r : Rig) : Nat → Int → Bool
  | 0, _ => false
  | n + 1, k => decide (stateS r (plcS l r.1 k) = 0) || tryB l r n (k + r.1.length)
def kPlc (l : List Int) (r : Rig) (k : Int) : List Int := (tryS l r 20 k []).1
def kPlcK (l : List Int) (r : Rig) (k : Int) : Int := (tryS l r 20 k []).2
theorem tryS_ok {l : List Int} {r : Rig} (h : KRig r) : ∀ (n : Nat) (k : Int) (s : List Int), 0 ≤ k → (n = 0 → VS r.1 s) → VS r.1 (tryS l r n k s).1 ∧ k ≤ (tryS l r n k s).2 ∧ (tryS l r n k s).2 ≤ k + 3 * n
  | 0, k, s, h0, hs => ⟨hs rfl, Int.le_refl _, by show k ≤ k + 3 * ((0 : Nat) : Int); omega⟩
  | n + 1, k, s, h0, hs => by
    obtain ⟨e1, e2⟩ := plcS_ok (l := l) h0 h.sm
    have l3 := h.l3
    rw [tryS]
    split
    · exact ⟨⟨e1, e2⟩, by show k ≤ k + (r.1.length : Int); omega, by show k + (r.1.length : Int) ≤ _; omega⟩
    · obtain ⟨a, b, c⟩ := tryS_ok h n (k + r.1.length) (plcS l r.1 k) (by omega) (fun _ => ⟨e1, e2⟩)
      exact ⟨a, by omega, by omega⟩
theorem kPlc_ok {l : List Int} {r : Rig} (h : KRig r) {k : Int} (h0 : 0 ≤ k) : VS r.1 (kPlc l r k) ∧ k ≤ kPlcK l r k ∧ kPlcK l r k ≤ k + 60 := tryS_ok h 20 k [] h0 (fun e => by cases e)
def L_kplc2 : Lay := { slots := [(0, .ptr 1 0), (3, .ptr 4035 0), (5, .row 3 tI), (6, .val tI), (7, .val tI)], boxes := [(1, [.val tIs, .val tI]), (4035, [.val tIs, .val (.sl (.pair tI (.pair tI (.pair tI tV))))])] }
def L_kplc2_0 : Lay := { slots := [(0, .ptr 1 0), (3, .ptr 4035 0), (5, .row 3 tI), (6, .val tI)], boxes := [(1, [.val tIs, .val tI]), (4035, [.val tIs, .val (.sl (.pair tI (.pair tI (.pair tI tV))))])] }
def X_kplc2 : Exit → St → Option Lay
  | .exit 2, _ => some L_kplc2_0
  | _, _ => none
abbrev C_kplc2 : Code := loopC (inner (loopC (bodyOf Try.f20) 0)) 2
theorem B_kplc2 (s : List Int) (j i : Int) (l : List Int) (k : Int) (ps : List Int) (bs : List (Int × (Int × (Int × V)))) : loopBodyA (P := P) [c_RNext.gc] (lpOf []) [] 35 (usd noU ([1])) (inner C_kplc2) L_kplc2 X_kplc2 (α := Unit × Unit × List Int × Int × Int × List Int × Int × List Int × List (Int × (Int × (Int × V))) × Unit) (fun x => x) (fun x => x) ((), (), s, j, i, l, k, ps, bs, ()) =
  Tree.cond (decide (i < (↑(List.length ps) : Int))) (Tree.need ((0 : Int) ≤ i ∧ i < (↑(List.length ps) : Int)) (Tree.need ((0 : Int) ≤ k ∧ k < (1099511627776 : Int) ∧ (0 : Int) < List.getD ps (Int.toNat i) (0 : Int)) (Tree.need ((List.length s + List.length [rnS l k (List.getD ps (Int.toNat i) (0 : Int))]) * (8 : Nat) ≤ (140737488355328 : Nat)) (Tree.leaf (Sum.inl (PUnit.unit, PUnit.unit, s ++ [rnS l k (List.getD ps (Int.toNat i) (0 : Int))], j, IntKind.wrap IntKind.i64 (i + (1 : Int)), l, k + (1 : Int), ps, bs, PUnit.unit)))))) (Tree.leaf (Sum.inr (Exit.exit (2 : Nat), Lay.st L_kplc2_0 (usd noU [(1 : Nat)]) (PUnit.unit, PUnit.unit, s, j, l, k, ps, bs, PUnit.unit)))) := by kernel_rfl
def inv_kplc2 : Unit × Unit × List Int × Int × Int × List Int × Int × List Int × List (Int × (Int × (Int × V))) × Unit → Prop := fun ((), (), s, j, i, l, k, ps, bs, ()) => 0 ≤ i ∧ i ≤ ps.length ∧ ps.length ≤ 3 ∧ smallP ps ∧ 0 ≤ k ∧ k + ((ps.length : Int) - i) ≤ 1000000000 ∧ (s.length : Int) ≤ i
def O_kplc2 : Unit × Unit × List Int × Int × Int × List Int × Int × List Int × List (Int × (Int × (Int × V))) × Unit → Tree (Exit × St) := fun ((), (), s, j, i, l, k, ps, bs, ()) => (.leaf (.exit 2, L_kplc2_0.st (usd noU ([1])) ((), (), (s ++ plcS l (ps.drop i.toNat) k), j, l, (k + ((ps.length : Int) - i)), ps, bs, ())))
def R_kplc2 : LRun := runOf 35 L_kplc2 (fun x => x) (inv_kplc2) (O_kplc2)
theorem K_kplc2 : LoopOk P [] 35 none (usd noU ([1])) C_kplc2 (R_kplc2) := by
  refine loop_of hm (cx := [c_RNext.gc]) [] (xl := X_kplc2) (α := Unit × Unit × List Int × Int × Int × List Int × Int × List Int × List (Int × (Int × (Int × V))) × Unit) (fun x => x) (fun ((), (), s, j, i, l, k, ps, bs, ()) => ((ps.length : Int) - i).toNat) (fun _ => rfl) (by kernel_rfl) (by kernel_rfl) ?_ (by kernel_rfl) trivial ?_
  · intro e S L' h
    unfold X_kplc2 at h
    split at h <;> first | (cases h; done) | (cases h; kernel_rfl) | (rcases bif_some h with h | h <;> cases h <;> kernel_rfl)
  · rintro ⟨⟨⟩, ⟨⟩, s, j, i, l, k, ps, bs, ⟨⟩⟩ hinv Q hQ
    refine hold_of_eq (B_kplc2 s j i l k ps bs) ?_
    obtain ⟨h0, h1, h2, h3, h4, h5, h6⟩ := hinv
    have hQ' : Q (.exit 2, L_kplc2_0.st (usd noU [1]) ((), (), s ++ plcS l (ps.drop i.toNat) k, j, l, k + ((ps.length : Int) - i), ps, bs, ())) := hQ
    rw [W_id (n := i + 1) (by omega) (by omega)]
    refine ⟨fun c1 => ?_, fun c1 => ?_⟩
    · have d1 : i < ps.length := of_decide_eq_true c1
      have hm : ((ps.length : Int) - (i + 1)).toNat < ((ps.length : Int) - i).toNat := by omega
      have hq := smallP_get h3 (i := i.toNat) (by omega)
      rw [plcS_step h0 d1, List.append_cons, show k + ((ps.length : Int) - i) = k + 1 + ((ps.length : Int) - (i + 1)) by omega] at hQ'
      refine ⟨⟨h0, d1⟩, ⟨h4, by omega, by omega⟩, by show (s.length + 1) * 8 ≤ _; omega, ⟨⟨by omega, by omega, h2, h3, by omega, by omega, ?_⟩, hm⟩, hQ'⟩
      show ((s ++ [_]).length : Int) ≤ i + 1
      rw [List.length_append]; show ((s.length + 1 : Nat) : Int) ≤ _; omega
    · have d1 : ¬ i < ps.length := of_decide_eq_false c1
      rw [drop_end d1, plcS_nil, List.append_nil, show k + ((ps.length : Int) - i) = k by omega] at hQ'
      exact hQ'
def L_kplc0 : Lay := { slots := [(0, .ptr 1 0), (3, .ptr 4035 0), (5, .val tIs), (6, .val tI)], boxes := [(1, [.val tIs, .val tI]), (4035, [.val tIs, .val (.sl (.pair tI (.pair tI (.pair tI tV))))])] }
def L_kplc0_0 : Lay := { slots := [(4, .val tIs)], boxes := [(1, [.val tIs, .val tI])] }
def L_kplc0_1 : Lay := { slots := [(5, .val tIs)], boxes := [(1, [.val tIs, .val tI])] }
def X_kplc0 : Exit → St → Option Lay
  | .ret, _ => some L_kplc0_0
  | .exit 0, _ => some L_kplc0_1
  | _, _ => none
abbrev C_kplc0 : Code := loopC (bodyOf Try.f20) 0
theorem B_kplc0 (s : List Int) (i : Int) (l : List Int) (k : Int) (ps : List Int) (bs : List (Int × (Int × (Int × V)))) : loopBodyA (P := P) [c_rState.gc] (lpOf [(2, R_kplc2)]) [] 35 (usd noU ([1])) (inner C_kplc0) L_kplc0 X_kplc0 (α := Unit × Unit × List Int × Int × List Int × Int × List Int × List (Int × (Int × (Int × V))) × Unit) (fun x => x) (fun x => x) ((), (), s, i, l, k, ps, bs, ()) =
  Tree.cond (decide (i < (20 : Int))) (Tree.need (inv_kplc2 ((), (), [], i, (0 : Int), l, k, ps, bs, ())) (Tree.need ((↑(List.length (plcS l (List.drop (Int.toNat (0 : Int)) ps) k)) : Int) < (2 : Int) ^ (62 : Nat)) (Tree.cond (stateS (ps, bs) (plcS l (List.drop (Int.toNat (0 : Int)) ps) k) == (0 : Int)) (Tree.leaf (Sum.inr (Exit.ret, Lay.st L_kplc0_0 (usd noU [(1 : Nat)]) (plcS l (List.drop (Int.toNat (0 : Int)) ps) k, l, k + ((↑(List.length ps) : Int) - (0 : Int)), PUnit.unit)))) (Tree.leaf (Sum.inl (PUnit.unit, PUnit.unit, plcS l (List.drop (Int.toNat (0 : Int)) ps) k, IntKind.wrap IntKind.i64 (i + (1 : Int)), l, k + ((↑(List.length ps) : Int) - (0 : Int)), ps, bs, PUnit.unit)))))) (Tree.leaf (Sum.inr (Exit.exit (0 : Nat), Lay.st L_kplc0_1 (usd noU [(1 : Nat)]) (s, l, k, PUnit.unit)))) := by kernel_rfl
def inv_kplc0 : Unit × Unit × List Int × Int × List Int × Int × List Int × List (Int × (Int × (Int × V))) × Unit → Prop := fun ((), (), s, i, l, k, ps, bs, ()) => 0 ≤ i ∧ i ≤ 20 ∧ KRig (ps, bs) ∧ 0 ≤ k ∧ k + 3 * (20 - i) ≤ 900000000
def O_kplc0 : Unit × Unit × List Int × Int × List Int × Int × List Int × List (Int × (Int × (Int × V))) × Unit → Tree (Exit × St) := fun ((), (), s, i, l, k, ps, bs, ()) => .cond (tryB l (ps, bs) (20 - i).toNat k) (.leaf (.ret, L_kplc0_0.st (usd noU ([1])) (((tryS l (ps, bs) (20 - i).toNat k s).1), l, ((tryS l (ps, bs) (20 - i).toNat k s).2), ()))) (.leaf (.exit 0, L_kplc0_1.st (usd noU ([1])) (((tryS l (ps, bs) (20 - i).toNat k s).1), l, ((tryS l (ps, bs) (20 - i).toNat k s).2), ())))
def R_kplc0 : LRun := runOf 35 L_kplc0 (fun x => x) (inv_kplc0) (O_kplc0)
theorem K_kplc0 : LoopOk P [] 35 none (usd noU ([1])) C_kplc0 (R_kplc0) := by
  refine loop_of hm (cx := [c_rState.gc]) [(2, R_kplc2)] (xl := X_kplc0) (α := Unit × Unit × List Int × Int × List Int × Int × List Int × List (Int × (Int × (Int × V))) × Unit) (fun x => x) (fun ((), (), s, i, l, k, ps, bs, ()) => (20 - i).toNat) (fun _ => rfl) (by kernel_rfl) (by kernel_rfl) ?_ (by kernel_rfl) ⟨K_kplc2, trivial⟩ ?_
  · intro e S L' h
    unfold X_kplc0 at h
    split at h <;> first | (cases h; done) | (cases h; kernel_rfl) | (rcases bif_some h with h | h <;> cases h <;> kernel_rfl)
  · rintro ⟨⟨⟩, ⟨⟩, s, i, l, k, ps, bs, ⟨⟩⟩ hinv Q hQ
    refine hold_of_eq (B_kplc0 s i l k ps bs) ?_
    obtain ⟨h0, h1, hk, h4, h5⟩ := hinv
    have l3 := hk.l3
    have sm := hk.sm
    dsimp only at l3 sm
    unfold O_kplc0 at hQ
    dsimp only at hQ
    rw [W_id (n := i + 1) (by omega) (by omega), Int.sub_zero]
    simp only [Int.toNat_zero, List.drop_zero]
    refine ⟨fun c1 => ?_, fun c1 => ?_⟩
    · have d1 : i < 20 := of_decide_eq_true c1
      have hm : (20 - (i + 1)).toNat < (20 - i).toNat := by omega
      obtain ⟨e1, e2⟩ := plcS_ok (l := l) h4 sm
      rw [show (20 - i).toNat = (20 - (i + 1)).toNat + 1 by omega, tryS, tryB] at hQ
      dsimp only at hQ
      refine ⟨⟨by decide, by omega, l3, sm, h4, by omega, by rw [List.length_nil]; omega⟩, by omega, fun c2 => ?_, fun c2 => ?_⟩
      · have d2 : stateS (ps, bs) (plcS l ps k) = 0 := eq_of_beq c2
        rw [if_pos d2, decide_eq_true d2, Bool.true_or] at hQ
        exact hQ.1 rfl
      · have d2 : ¬ stateS (ps, bs) (plcS l ps k) = 0 := fun e => by rw [e] at c2; cases c2
        rw [if_neg d2, decide_eq_false d2, Bool.false_or] at hQ
        exact ⟨⟨⟨by omega, by omega, hk, by omega, by omega⟩, hm⟩, hQ⟩
    · have d1 : ¬ i < 20 := of_decide_eq_false c1
      rw [show (20 - i).toNat = 0 by omega] at hQ
      exact hQ.2 rfl
def L_Places : Lay := { slots := [(0, .ptr 1 0), (1, .agg (.pair tIs (.sl (.pair tI (.pair tI (.pair tI tV))))))], boxes := [(1, [.val tIs, .val tI])] }
theorem T_Places (s1_0 : List Int) (s1_1 : List (Int × (Int × (Int × V)))) (l : List Int) (k : Int) : mTree (P := P) [] (lpOf [(0, R_kplc0)]) Try.f20 L_Places false ((), (s1_0, s1_1), l, k, ()) =
  Tree.need (inv_kplc0 ((), (), [], (0 : Int), l, k, s1_0, s1_1, ())) (Tree.cond (tryB l (s1_0, s1_1) (Int.toNat ((20 : Int) - (0 : Int))) k) (Tree.leaf { res := SV.sl tI (tryS l (s1_0, s1_1) (Int.toNat ((20 : Int) - (0 : Int))) k []).fst, boxes := [[SV.sl tI l, SV.int IntKind.i64 (tryS l (s1_0, s1_1) (Int.toNat ((20 : Int) - (0 : Int))) k []).snd]] }) (Tree.leaf { res := SV.sl tI (tryS l (s1_0, s1_1) (Int.toNat ((20 : Int) - (0 : Int))) k []).fst, boxes := [[SV.sl tI l, SV.int IntKind.i64 (tryS l (s1_0, s1_1) (Int.toNat ((20 : Int) - (0 : Int))) k []).snd]] })) := by kernel_rfl
def c_Places : MC P := MC.of (α := Unit × (List Int × List (Int × (Int × (Int × V)))) × List Int × Int × Unit) 20 L_Places (fun x => x) (fun x => x) (fun _ => rfl)
  (fun x => some (KRig x.2.1 ∧ 0 ≤ x.2.2.2.1 ∧ x.2.2.2.1 ≤ 500000000))
  (fun x => ⟨.sl tI (kPlc x.2.2.1 x.2.1 x.2.2.2.1), [[.sl tI x.2.2.1, .int .i64 (kPlcK x.2.2.1 x.2.1 x.2.2.2.1)]], []⟩) (by kernel_rfl) (by kernel_rfl) (by kernel_rfl) (by
    rintro ⟨⟨⟩, ⟨s1_0, s1_1⟩, l, k, ⟨⟩⟩ hp
    refine m_of hm (own := false) (by kernel_rfl) (by kernel_rfl) (by kernel_rfl) (T_Places s1_0 s1_1 l k) ⟨K_kplc0, trivial⟩ ?_
    try dsimp only at hp
    try dsimp only
    obtain ⟨hk, p1, p2⟩ : KRig (s1_0, s1_1) ∧ 0 ≤ k ∧ k ≤ 500000000 := hp
    exact ⟨⟨by decide, by decide, hk, p1, by omega⟩, fun c => rfl, fun c => rfl⟩)
end
end Go.MR
