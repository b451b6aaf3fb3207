/- Rigs: what is made of numbers: states, goals, moves; comparisons. -/
import Derived.Test.YtmolckndbmjgfaaMrR
namespace Go.MR
open Go Go.Sx Go.Proofs
set_option linter.unusedVariables false
set_option linter.unusedSimpArgs false
noncomputable section
theorem smallP_badP {ps : List Int} (h : smallP ps) : ps.any badP = false := by
  cases e : ps.any badP with
  | false => rfl
  | true =>
    rw [List.any_eq_true] at e
    obtain ⟨p, hp, hb⟩ := e
    have := h p hp
    unfold badP wi at hb
    rw [decide_eq_true (by omega), decide_eq_true (by omega)] at hb
    cases hb
theorem banAt_ok {l ps : List Int} {k : Int} (h0 : 0 ≤ k) (h2 : 2 ≤ ps.length) (hs : smallP ps) : banE ps (banAt l ps k) = 0 := by
  unfold banAt
  dsimp only
  have r1 := rnS_rng (l := l) (k := k) (n := (ps.length : Int) - 1) h0 (by omega)
  have rb : 1 ≤ rnS l k ((ps.length : Int) - 1) + 1 ∧ rnS l k ((ps.length : Int) - 1) + 1 ≤ (ps.length : Int) - 1 := by omega
  generalize rnS l k ((ps.length : Int) - 1) + 1 = b at *
  have r2 := rnS_rng (l := l) (k := k + 1) (n := b) (by omega) (by omega)
  generalize rnS l (k + 1) b = a at *
  have pa := smallP_get hs (i := a.toNat) (by omega)
  have pb := smallP_get hs (i := b.toNat) (by omega)
  have ea : ps.getD a.toNat 0 = ps.getD a.toNat 0 := rfl
  generalize hqa : ps.getD a.toNat 0 = qa at *
  generalize hqb : ps.getD b.toNat 0 = qb at *
  have r3 := rnS_rng (l := l) (k := k + 1 + 1) (n := qa) (by omega) (by omega)
  have r4 := rnS_rng (l := l) (k := k + 1 + 1 + 1) (n := qb) (by omega) (by omega)
  generalize rnS l (k + 1 + 1) qa = u at *
  generalize rnS l (k + 1 + 1 + 1) qb = v at *
  have r5 := rnS_rng (l := l) (k := k + 1 + 1 + 1 + 1) (n := qa - u) (by omega) (by omega)
  have r6 := rnS_rng (l := l) (k := k + 1 + 1 + 1 + 1 + 1) (n := qb - v) (by omega) (by omega)
  generalize rnS l (k + 1 + 1 + 1 + 1) (qa - u) = u' at *
  generalize rnS l (k + 1 + 1 + 1 + 1 + 1) (qb - v) = v' at *
  unfold banE
  dsimp only
  rw [if_neg (by omega), if_neg (by rw [hqa, hqb]; omega)]
theorem bnR_ok {l ps : List Int} (h2 : 2 ≤ ps.length) (hs : smallP ps) : ∀ (n : Nat) (k : Int) (bs : List Ban), 0 ≤ k → (∀ b ∈ bs, banE ps b = 0) → (bnR l ps n k bs).length = bs.length + n ∧ ∀ b ∈ bnR l ps n k bs, banE ps b = 0
  | 0, _, bs, _, h => ⟨rfl, h⟩
  | n + 1, k, bs, h0, h => by
    obtain ⟨e1, e2⟩ := bnR_ok h2 hs n (k + 6) (bs ++ [banAt l ps k]) (by omega) (fun b hb => by
      rcases List.mem_append.1 hb with hb | hb
      · exact h b hb
      · rw [List.mem_singleton] at hb; rw [hb]; exact banAt_ok h0 h2 hs)
    rw [bnR]
    exact ⟨by rw [e1, List.length_append, List.length_singleton]; omega, e2⟩
theorem banEs_of {ps : List Int} : ∀ {bs : List Ban}, (∀ b ∈ bs, banE ps b = 0) → banEs ps bs = 0
  | [], _ => rfl
  | b :: bs, h => by
    rw [banEs, if_neg (by rw [h b (by simp)]; simp), banEs_of (fun x hx => h x (List.mem_cons_of_mem _ hx))]
structure KRig (r : Rig) : Prop where
  l2 : 2 ≤ r.1.length
  l3 : r.1.length ≤ 3
  sm : smallP r.1
  bl : r.2.length ≤ 4
  ck : checkS r = 0
theorem kRig_ok {l : List Int} {k : Int} (h0 : 0 ≤ k) : KRig (kRig l k) ∧ k ≤ kRigK l k ∧ kRigK l k ≤ k + 40 := by
  have r1 := rnS_rng (l := l) (k := k) (n := 2) h0 (by decide)
  have r2 := rnS_rng (l := l) (k := k + 1 + (2 + rnS l k 2)) (n := 5) (by omega) (by decide)
  obtain ⟨q1, q2⟩ := plR_ok l (2 + rnS l k 2).toNat (k + 1) [] (by omega) (fun p hp => by cases hp)
  rw [List.length_nil] at q1
  have a1 : 2 ≤ (kpsS l k).length := by unfold kpsS; omega
  have a2 : (kpsS l k).length ≤ 3 := by unfold kpsS; omega
  have a3 : smallP (kpsS l k) := q2
  obtain ⟨b1, b2⟩ := bnR_ok (l := l) a1 a3 (rnS l (k + 1 + (2 + rnS l k 2)) 5).toNat (k + 1 + (2 + rnS l k 2) + 1) [] (by omega) (fun b hb => by cases hb)
  rw [List.length_nil] at b1
  have c2 : (kRig l k).2.length ≤ 4 := by unfold kRig; dsimp only; omega
  refine ⟨⟨a1, a2, a3, c2, ?_⟩, by unfold kRigK; omega, by unfold kRigK; omega⟩
  have e1 : (kRig l k).1 = kpsS l k := rfl
  unfold checkS
  rw [e1, smallP_badP a3, if_neg (by omega), if_neg (by omega), if_neg (by simp), if_neg (by omega)]
  exact banEs_of b2
theorem KRig.rg {r : Rig} (h : KRig r) : RgOk r.1 r.2 := ⟨h.l2, by have := h.l3; omega, smallP_badP h.sm⟩
def glS (l : List Int) : List Int → Int → List (Int × Int)
  | q :: ps, k => (rnS l k q, rnS l k q + rnS l (k + 1) (q - rnS l k q)) :: glS l ps (k + 2)
  | [], _ => []
theorem glS_nil (l : List Int) (k : Int) : glS l [] k = [] := rfl
theorem glS_step {l ps : List Int} {i k : Int} (h0 : 0 ≤ i) (h : i < ps.length) : glS l (ps.drop i.toNat) k = (rnS l k (ps.getD i.toNat 0), rnS l k (ps.getD i.toNat 0) + rnS l (k + 1) (ps.getD i.toNat 0 - rnS l k (ps.getD i.toNat 0))) :: glS l (ps.drop (i + 1).toNat) (k + 2) := by
  rw [drop_step (0 : Int) h0 h, glS]
def L_kgl : Lay := { slots := [(0, .ptr 1 0), (3, .ptr 4039 0), (5, .row 37 tPart), (6, .val tI)], boxes := [(1, [.val tIs, .val tI]), (4039, [.val tIs, .val (.sl (.pair tI (.pair tI (.pair tI tV))))])] }
def L_kgl_0 : Lay := { slots := [(5, .row 37 tPart)], boxes := [(1, [.val tIs, .val tI])] }
def X_kgl : Exit → St → Option Lay
  | .exit 0, _ => some L_kgl_0
  | _, _ => none
abbrev C_kgl : Code := loopC (bodyOf Try.f21) 0
theorem B_kgl (g : List (Int × Int)) (i : Int) (l : List Int) (k : Int) (ps : List Int) (bs : List (Int × (Int × (Int × V)))) : loopBodyA (P := P) [c_RNext.gc] (lpOf []) [] 39 (usd noU ([1])) (inner C_kgl) L_kgl X_kgl (α := Unit × Unit × List (Int × Int) × Int × List Int × Int × List Int × List (Int × (Int × (Int × V))) × Unit) (fun x => x) (fun x => x) ((), (), g, i, l, k, ps, bs, ()) =
  Tree.cond (decide (i < (↑(List.length ps) : Int))) (Tree.need ((0 : Int) ≤ i ∧ i < (↑(List.length ps) : Int)) (Tree.need ((0 : Int) ≤ k ∧ k < (1099511627776 : Int) ∧ (0 : Int) < List.getD ps (Int.toNat i) (0 : Int)) (Tree.need ((0 : Int) ≤ i ∧ i < (↑(List.length ps) : Int)) (Tree.need ((0 : Int) ≤ k + (1 : Int) ∧ k + (1 : Int) < (1099511627776 : Int) ∧ (0 : Int) < IntKind.wrap IntKind.i64 (List.getD ps (Int.toNat i) (0 : Int) - rnS l k (List.getD ps (Int.toNat i) (0 : Int)))) (Tree.need ((List.length g + List.length [(rnS l k (List.getD ps (Int.toNat i) (0 : Int)), IntKind.wrap IntKind.i64 (rnS l k (List.getD ps (Int.toNat i) (0 : Int)) + rnS l (k + (1 : Int)) (IntKind.wrap IntKind.i64 (List.getD ps (Int.toNat i) (0 : Int) - rnS l k (List.getD ps (Int.toNat i) (0 : Int))))))]) * (16 : Nat) ≤ (140737488355328 : Nat)) (Tree.leaf (Sum.inl (PUnit.unit, PUnit.unit, g ++ [(rnS l k (List.getD ps (Int.toNat i) (0 : Int)), IntKind.wrap IntKind.i64 (rnS l k (List.getD ps (Int.toNat i) (0 : Int)) + rnS l (k + (1 : Int)) (IntKind.wrap IntKind.i64 (List.getD ps (Int.toNat i) (0 : Int) - rnS l k (List.getD ps (Int.toNat i) (0 : Int))))))], IntKind.wrap IntKind.i64 (i + (1 : Int)), l, k + (1 : Int) + (1 : Int), ps, bs, PUnit.unit)))))))) (Tree.leaf (Sum.inr (Exit.exit (0 : Nat), Lay.st L_kgl_0 (usd noU [(1 : Nat)]) (g, l, k, PUnit.unit)))) := by kernel_rfl
def inv_kgl : Unit × Unit × List (Int × Int) × Int × List Int × Int × List Int × List (Int × (Int × (Int × V))) × Unit → Prop := fun ((), (), g, i, l, k, ps, bs, ()) => 0 ≤ i ∧ i ≤ ps.length ∧ ps.length ≤ 3 ∧ smallP ps ∧ 0 ≤ k ∧ k + 2 * ((ps.length : Int) - i) ≤ 1000000000 ∧ (g.length : Int) ≤ i
def O_kgl : Unit × Unit × List (Int × Int) × Int × List Int × Int × List Int × List (Int × (Int × (Int × V))) × Unit → Tree (Exit × St) := fun ((), (), g, i, l, k, ps, bs, ()) => (.leaf (.exit 0, L_kgl_0.st (usd noU ([1])) ((g ++ glS l (ps.drop i.toNat) k), l, (k + 2 * ((ps.length : Int) - i)), ())))
def R_kgl : LRun := runOf 39 L_kgl (fun x => x) (inv_kgl) (O_kgl)
theorem K_kgl : LoopOk P [] 39 none (usd noU ([1])) C_kgl (R_kgl) := by
  refine loop_of hm (cx := [c_RNext.gc]) [] (xl := X_kgl) (α := Unit × Unit × List (Int × Int) × Int × List Int × Int × List Int × List (Int × (Int × (Int × V))) × Unit) (fun x => x) (fun ((), (), g, i, l, k, ps, bs, ()) => ((ps.length : Int) - i).toNat) (fun _ => rfl) (by kernel_rfl) (by kernel_rfl) ?_ (by kernel_rfl) trivial ?_
  · intro e S L' h
    unfold X_kgl at h
    split at h <;> first | (cases h; done) | (cases h; kernel_rfl) | (rcases bif_some h with h | h <;> cases h <;> kernel_rfl)
  · rintro ⟨⟨⟩, ⟨⟩, g, i, l, k, ps, bs, ⟨⟩⟩ hinv Q hQ
    refine hold_of_eq (B_kgl g i l k ps bs) ?_
    obtain ⟨h0, h1, h2, h3, h4, h5, h6⟩ := hinv
    have hQ' : Q (.exit 0, L_kgl_0.st (usd noU [1]) (g ++ glS l (ps.drop i.toNat) k, l, k + 2 * ((ps.length : Int) - i), ())) := hQ
    rw [W_id (n := i + 1) (by omega) (by omega)]
    refine ⟨fun c1 => ?_, fun c1 => ?_⟩
    · have d1 : i < ps.length := of_decide_eq_true c1
      have hm : ((ps.length : Int) - (i + 1)).toNat < ((ps.length : Int) - i).toNat := by omega
      have hq := smallP_get h3 (i := i.toNat) (by omega)
      rw [glS_step h0 d1, List.append_cons, show k + 2 * ((ps.length : Int) - i) = k + 1 + 1 + 2 * ((ps.length : Int) - (i + 1)) by omega, show k + 2 = k + 1 + 1 by omega] at hQ'
      generalize ps.getD i.toNat 0 = q at *
      have r1 := rnS_rng (l := l) (k := k) (n := q) h4 (by omega)
      rw [W_id (n := q - rnS l k q) (by omega) (by omega)]
      have r2 := rnS_rng (l := l) (k := k + 1) (n := q - rnS l k q) (by omega) (by omega)
      rw [W_id (n := rnS l k q + rnS l (k + 1) (q - rnS l k q)) (by omega) (by omega)]
      refine ⟨⟨h0, d1⟩, ⟨h4, by omega, by omega⟩, ⟨h0, d1⟩, ⟨by omega, by omega, by omega⟩, by show (g.length + 1) * 16 ≤ _; omega, ⟨⟨by omega, by omega, h2, h3, by omega, by omega, ?_⟩, hm⟩, hQ'⟩
      show ((g ++ [_]).length : Int) ≤ i + 1
      rw [List.length_append]; show ((g.length + 1 : Nat) : Int) ≤ _; omega
    · have d1 : ¬ i < ps.length := of_decide_eq_false c1
      rw [drop_end d1, glS_nil, List.append_nil, show k + 2 * ((ps.length : Int) - i) = k by omega] at hQ'
      exact hQ'
def L_Goal8 : Lay := { slots := [(0, .ptr 1 0), (1, .agg (.pair tIs (.sl (.pair tI (.pair tI (.pair tI tV))))))], boxes := [(1, [.val tIs, .val tI])] }
theorem T_Goal8 (s1_0 : List Int) (s1_1 : List (Int × (Int × (Int × V)))) (l : List Int) (k : Int) : mTree (P := P) [] (lpOf [(0, R_kgl)]) Try.f21 L_Goal8 true ((), (s1_0, s1_1), l, k, ()) =
  Tree.need (inv_kgl ((), (), [], (0 : Int), l, k, s1_0, s1_1, ())) (Tree.leaf { res := SV.own (nat_lit 100), boxes := [[SV.sl tI l, SV.int IntKind.i64 (k + (2 : Int) * ((↑(List.length s1_0) : Int) - (0 : Int)))]], news := [Ob.row (37 : TypeId) tPart (glS l (List.drop (Int.toNat (0 : Int)) s1_0) k)] }) := by kernel_rfl
def c_Goal8 : MC P := MC.of (α := Unit × (List Int × List (Int × (Int × (Int × V)))) × List Int × Int × Unit) 21 L_Goal8 (fun x => x) (fun x => x) (fun _ => rfl)
  (fun x => some (KRig x.2.1 ∧ 0 ≤ x.2.2.2.1 ∧ x.2.2.2.1 ≤ 500000000))
  (fun x => ⟨.own 100, [[.sl tI x.2.2.1, .int .i64 (x.2.2.2.1 + 2 * (x.2.1.1.length : Int))]], [.row 37 tPart (glS x.2.2.1 x.2.1.1 x.2.2.2.1)]⟩) (by kernel_rfl) (by kernel_rfl) (by kernel_rfl) (by
    rintro ⟨⟨⟩, ⟨s1_0, s1_1⟩, l, k, ⟨⟩⟩ hp
    refine m_of hm (own := true) (by kernel_rfl) (by kernel_rfl) (by kernel_rfl) (T_Goal8 s1_0 s1_1 l k) ⟨K_kgl, trivial⟩ ?_
    try dsimp only at hp
    try dsimp only
    obtain ⟨hk, p1, p2⟩ : KRig (s1_0, s1_1) ∧ 0 ≤ k ∧ k ≤ 500000000 := hp
    have l3 := hk.l3
    have sm := hk.sm
    dsimp only at l3 sm
    simp only [Int.toNat_zero, List.drop_zero, Int.sub_zero, List.nil_append]
    exact ⟨⟨by decide, by omega, l3, sm, p1, by omega, by rw [List.length_nil]; omega⟩, rfl⟩)
end
end Go.MR
