/- Rigs: what is made of numbers: states, goals, moves; comparisons. -/
import Derived.Test.YtmolckndbmjgfaaMrR
namespace Go.MR
open Go Go.Sx Go.Proofs
set_option linter.unusedVariables false
set_option linter.unusedSimpArgs false
noncomputable section
theorem smallP_badP {ps : List Int} (h : smallP ps) : ps.any badP = false := by
  cases e : ps.any badP with
  | false => rfl
  | true =>
    rw [List.any_eq_true] at e
    obtain ⟨p, hp, hb⟩ := e
    have := h p hp
    unfold badP wi at hb
    rw [decide_eq_true (by omega), decide_eq_true (by omega)] at hb
    cases hb
theorem banAt_ok {l ps : List Int} {k : Int} (h0 : 0 ≤ k) (h2 : 2 ≤ ps.length) (hs : smallP ps) : banE ps (banAt l ps k) = 0 := by
  unfold banAt
  dsimp only
  have r1 := rnS_rng (l := l) (k := k) (n := (ps.length : Int) - 1) h0 (by omega)
  have rb : 1 ≤ rnS l k ((ps.length : Int) - 1) + 1 ∧ rnS l k ((ps.length : Int) - 1) + 1 ≤ (ps.length : Int) - 1 := by omega
  generalize rnS l k ((ps.length : Int) - 1) + 1 = b at *
  have r2 := rnS_rng (l := l) (k := k + 1) (n := b) (by omega) (by omega)
  generalize rnS l (k + 1) b = a at *
  have pa := smallP_get hs (i := a.toNat) (by omega)
  have pb := smallP_get hs (i := b.toNat) (by omega)
  have ea : ps.getD a.toNat 0 = ps.getD a.toNat 0 := rfl
  generalize hqa : ps.getD a.toNat 0 = qa at *
  generalize hqb : ps.getD b.toNat 0 = qb at *
  have r3 := rnS_rng (l := l) (k := k + 1 + 1) (n := qa) (by omega) (by omega)
  have r4 := rnS_rng (l := l) (k := k + 1 + 1 + 1) (n := qb) (by omega) (by omega)
  generalize rnS l (k + 1 + 1) qa = u at *
  generalize rnS l (k + 1 + 1 + 1) qb = v at *
  have r5 := rnS_rng (l := l) (k := k + 1 + 1 + 1 + 1) (n := qa - u) (by omega) (by omega)
  have r6 := rnS_rng (l := l) (k := k + 1 + 1 + 1 + 1 + 1) (n := qb - v) (by omega) (by omega)
  generalize rnS l (k + 1 + 1 + 1 + 1) (qa - u) = u' at *
  generalize rnS l (k + 1 + 1 + 1 + 1 + 1) (qb - v) = v' at *
  unfold banE
  dsimp only
  rw [if_neg (by omega), if_neg (by rw [hqa, hqb]; omega)]
theorem bnR_ok {l ps : List Int} (h2 : 2 ≤ ps.length) (hs : smallP ps) : ∀ (n : Nat) (k : Int) (bs : List Ban), 0 ≤ k → (∀ b ∈ bs, banE ps b = 0) → (bnR l ps n k bs).length = bs.length + n ∧ ∀ b ∈ bnR l ps n k bs, banE ps b = 0
  | 0, _, bs, _, h => ⟨rfl, h⟩
  | n + 1, k, bs, h0, h => by
    obtain ⟨e1, e2⟩ := bnR_ok h2 hs n (k + 6) (bs ++ [banAt l ps k]) (by omega) (fun b hb => by
      rcases List.mem_append.1 hb with hb | hb
      · exact h b hb
      · rw [List.mem_singleton] at hb; rw [hb]; exact banAt_ok h0 h2 hs)
    rw [bnR]
    exact ⟨by rw [e1, List.length_append, List.length_singleton]; omega, e2⟩
theorem banEs_of {ps : List Int} : ∀ {bs : List Ban}, (∀ b ∈ bs, banE ps b = 0) → banEs ps bs = 0
  | [], _ => rfl
  | b :: bs, h => by
    rw [banEs, if_neg (by rw [h b (by simp)]; simp), banEs_of (fun x hx => h x (List.mem_cons_of_mem _ hx))]
structure KRig (r : Rig) : Prop where
  l2 : 2 ≤ r.1.length
  l3 : r.1.length ≤ 3
  sm : smallP r.1
  bl : r.2.length ≤ 4
  ck : checkS r = 0
theorem kRig_ok {l : List Int} {k : Int} (h0 : 0 ≤ k) : KRig (kRig l k) ∧ k ≤ kRigK l k ∧ kRigK l k ≤ k + 40 := by
  have r1 := rnS_rng (l := l) (k := k) (n := 2) h0 (by decide)
  have r2 := rnS_rng (l := l) (k := k + 1 + (2 + rnS l k 2)) (n := 5) (by omega) (by decide)
  obtain ⟨q1, q2⟩ := plR_ok l (2 + rnS l k 2).toNat (k + 1) [] (by omega) (fun p hp => by cases hp)
  rw [List.length_nil] at q1
  have a1 : 2 ≤ (kpsS l k).length := by unfold kpsS; omega
  have a2 : (kpsS l k).length ≤ 3 := by unfold kpsS; omega
  have a3 : smallP (kpsS l k) := q2
  obtain ⟨b1, b2⟩ := bnR_ok (l := l) a1 a3 (rnS l (k + 1 + (2 + rnS l k 2)) 5).toNat (k + 1 + (2 + rnS l k 2) + 1) [] (by omega) (fun b hb => by cases hb)
  rw [List.length_nil] at b1
  have c2 : (kRig l k).2.length ≤ 4 := by unfold kRig; dsimp only; omega
  refine ⟨⟨a1, a2, a3, c2, ?_⟩, by unfold kRigK; omega, by unfold kRigK; omega⟩
  have e1 : (kRig l k).1 = kpsS l k := rfl
  unfold checkS
  rw [e1, smallP_badP a3, if_neg (by omega), if_neg (by omega), if_neg (by simp), if_neg (by omega)]
  exact banEs_of b2
def mvS (l : List Int) : Nat → Int → List Int
  | 0, _ => []
  | n + 1, k => (rnS l k 3 - 1) :: mvS l n (k + 1)
def L_kmv : Lay := { slots := [(0, .ptr 1 0), (1, .val tI), (5, .row 3 tI), (6, .val tI)], boxes := [(1, [.val tIs, .val tI])] }
def L_kmv_0 : Lay := { slots := [(5, .row 3 tI)], boxes := [(1, [.val tIs, .val tI])] }
def X_kmv : Exit → St → Option Lay
  | .exit 0, _ => some L_kmv_0
  | _, _ => none
abbrev C_kmv : Code := loopC (bodyOf Try.f27) 0
theorem B_kmv (n : Int) (m : List Int) (i : Int) (l : List Int) (k : Int) : loopBodyA (P := P) [c_RNext.gc] (lpOf []) [] 19 (usd noU ([1])) (inner C_kmv) L_kmv X_kmv (α := Unit × Int × List Int × Int × List Int × Int × Unit) (fun x => x) (fun x => x) ((), n, m, i, l, k, ()) =
  Tree.cond (decide (i < n)) (Tree.need ((0 : Int) ≤ k ∧ k < (1099511627776 : Int) ∧ (0 : Int) < (3 : Int)) (Tree.need ((List.length m + List.length [IntKind.wrap IntKind.i64 (rnS l k (3 : Int) - (1 : Int))]) * (8 : Nat) ≤ (140737488355328 : Nat)) (Tree.leaf (Sum.inl (PUnit.unit, n, m ++ [IntKind.wrap IntKind.i64 (rnS l k (3 : Int) - (1 : Int))], IntKind.wrap IntKind.i64 (i + (1 : Int)), l, k + (1 : Int), PUnit.unit))))) (Tree.leaf (Sum.inr (Exit.exit (0 : Nat), Lay.st L_kmv_0 (usd noU [(1 : Nat)]) (m, l, k, PUnit.unit)))) := by kernel_rfl
def inv_kmv : Unit × Int × List Int × Int × List Int × Int × Unit → Prop := fun ((), n, m, i, l, k, ()) => 0 ≤ i ∧ i ≤ n ∧ n ≤ 10 ∧ 0 ≤ k ∧ k + (n - i) ≤ 1000000000 ∧ (m.length : Int) ≤ i
def O_kmv : Unit × Int × List Int × Int × List Int × Int × Unit → Tree (Exit × St) := fun ((), n, m, i, l, k, ()) => (.leaf (.exit 0, L_kmv_0.st (usd noU ([1])) ((m ++ mvS l (n - i).toNat k), l, (k + (n - i)), ())))
def R_kmv : LRun := runOf 19 L_kmv (fun x => x) (inv_kmv) (O_kmv)
theorem K_kmv : LoopOk P [] 19 none (usd noU ([1])) C_kmv (R_kmv) := by
  refine loop_of hm (cx := [c_RNext.gc]) [] (xl := X_kmv) (α := Unit × Int × List Int × Int × List Int × Int × Unit) (fun x => x) (fun ((), n, m, i, l, k, ()) => (n - i).toNat) (fun _ => rfl) (by kernel_rfl) (by kernel_rfl) ?_ (by kernel_rfl) trivial ?_
  · intro e S L' h
    unfold X_kmv at h
    split at h <;> first | (cases h; done) | (cases h; kernel_rfl) | (rcases bif_some h with h | h <;> cases h <;> kernel_rfl)
  · rintro ⟨⟨⟩, n, m, i, l, k, ⟨⟩⟩ hinv Q hQ
    refine hold_of_eq (B_kmv n m i l k) ?_
    obtain ⟨h0, h1, h2, h4, h5, h6⟩ := hinv
    have hQ' : Q (.exit 0, L_kmv_0.st (usd noU [1]) (m ++ mvS l (n - i).toNat k, l, k + (n - i), ())) := hQ
    have r1 := rnS_rng (l := l) (k := k) (n := 3) h4 (by decide)
    rw [W_id (n := i + 1) (by omega) (by omega), W_id (n := rnS l k 3 - 1) (by omega) (by omega)]
    refine ⟨fun c1 => ?_, fun c1 => ?_⟩
    · have d1 : i < n := of_decide_eq_true c1
      have hm : (n - (i + 1)).toNat < (n - i).toNat := by omega
      rw [show (n - i).toNat = (n - (i + 1)).toNat + 1 by omega, mvS, List.append_cons, show k + (n - i) = k + 1 + (n - (i + 1)) by omega] at hQ'
      refine ⟨⟨h4, by omega, by decide⟩, by show (m.length + 1) * 8 ≤ _; omega, ⟨⟨by omega, by omega, h2, by omega, by omega, ?_⟩, hm⟩, hQ'⟩
      show ((m ++ [_]).length : Int) ≤ i + 1
      rw [List.length_append]; show ((m.length + 1 : Nat) : Int) ≤ _; omega
    · have d1 : ¬ i < n := of_decide_eq_false c1
      rw [show (n - i).toNat = 0 by omega, mvS, List.append_nil, show k + (n - i) = k by omega] at hQ'
      exact hQ'
def L_Move : Lay := { slots := [(0, .ptr 1 0), (1, .val tI)], boxes := [(1, [.val tIs, .val tI])] }
theorem T_Move (n : Int) (l : List Int) (k : Int) : mTree (P := P) [] (lpOf [(0, R_kmv)]) Try.f27 L_Move true ((), n, l, k, ()) =
  Tree.need (inv_kmv ((), n, [], (0 : Int), l, k, ())) (Tree.leaf { res := SV.own (nat_lit 100), boxes := [[SV.sl tI l, SV.int IntKind.i64 (k + (n - (0 : Int)))]], news := [Ob.row (3 : TypeId) tI (mvS l (Int.toNat (n - (0 : Int))) k)] }) := by kernel_rfl
def c_Move : MC P := MC.of (α := Unit × Int × List Int × Int × Unit) 27 L_Move (fun x => x) (fun x => x) (fun _ => rfl)
  (fun x => some (0 < x.2.1 ∧ x.2.1 ≤ 10 ∧ 0 ≤ x.2.2.2.1 ∧ x.2.2.2.1 ≤ 500000000))
  (fun x => ⟨.own 100, [[.sl tI x.2.2.1, .int .i64 (x.2.2.2.1 + x.2.1)]], [.row 3 tI (mvS x.2.2.1 x.2.1.toNat x.2.2.2.1)]⟩) (by kernel_rfl) (by kernel_rfl) (by kernel_rfl) (by
    rintro ⟨⟨⟩, n, l, k, ⟨⟩⟩ hp
    refine m_of hm (own := true) (by kernel_rfl) (by kernel_rfl) (by kernel_rfl) (T_Move n l k) ⟨K_kmv, trivial⟩ ?_
    try dsimp only at hp
    try dsimp only
    obtain ⟨p0, p1, p2, p3⟩ : 0 < n ∧ n ≤ 10 ∧ 0 ≤ k ∧ k ≤ 500000000 := hp
    simp only [Int.sub_zero]
    exact ⟨⟨by decide, by omega, p1, p2, by omega, by rw [List.length_nil]; omega⟩, rfl⟩)
end
end Go.MR
