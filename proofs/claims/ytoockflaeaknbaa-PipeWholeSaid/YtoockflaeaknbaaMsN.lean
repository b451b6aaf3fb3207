/- The law PipeWhole. -/
import Derived.Test.YtoockflaeaknbaaMsL
namespace Go.MP
open Go Go.Sx Go.Proofs
set_option linter.unusedVariables false
set_option linter.unusedSimpArgs false
noncomputable section
def AtPc (l : List Tb) (p : Pth) (ks : List K2) (rest : List Pc) (to top tube : Int) : Prop :=
  fitsS l p = 0 ∧ ks = knots p.1 p.2 ∧ 0 ≤ tube ∧ tube < l.length ∧ top = sumT (l.drop (tube + 1).toNat) ∧ top ≤ to ∧ to ≤ lenS p ∧ to ≤ 1048576 ∧ (to = top → tube + 1 = l.length) ∧ rest = tubeS ks tube top to ++ pcsL ks (tube + 1) top (l.drop (tube + 1).toNat)
theorem atPc_end {l : List Tb} {p : Pth} {ks : List K2} {rest : List Pc} {to top tube : Int} (h : AtPc l p ks rest to top tube) (e : rest = []) : to = 0 := by
  obtain ⟨hf, hks, h0, h1, ht, h2, h3, h20, h4, h5⟩ := h
  have hd : Down ks (lenS p) := by rw [hks]; exact fits_down hf
  obtain ⟨_, _, g3, _⟩ := checkT_ok (fitsS_ok hf).1
  have hr := (sumT_rng (l.drop (tube + 1).toNat) (g3.drop _)).1
  rcases Int.lt_or_le top to with h | h
  · rw [e, tubeS_step hd tube (by omega) h h3] at h5
    cases h5
  · have e2 : to = top := by omega
    have e3 := h4 e2
    rw [List.drop_eq_nil_of_le (by omega)] at ht
    rw [e2, ht]; rfl
theorem atPc_next {l : List Tb} {p : Pth} {ks : List K2} {q : Pc} {rest : List Pc} {to top tube : Int} (h : AtPc l p ks (q :: rest) to top tube) :
    q.2.2.2 = to ∧ q.2.2.1 < to ∧ 0 ≤ q.2.2.1 ∧ 0 ≤ q.2.1 ∧ q.2.1 + 1 < ks.length ∧ knotA ks q.2.1 ≤ q.2.2.1 ∧ to ≤ knotA ks (q.2.1 + 1) ∧ q.1 = tube ∧ top ≤ q.2.2.1 ∧ (q.2.2.1 > top → q.2.2.1 = knotA ks q.2.1) ∧
    (q.2.2.1 = top → tube + 1 < l.length → AtPc l p ks rest top (top - (l.getD (tube + 1).toNat zT).1 * (l.getD (tube + 1).toNat zT).2.1) (tube + 1)) ∧
    (¬ (q.2.2.1 = top ∧ tube + 1 < l.length) → AtPc l p ks rest q.2.2.1 top tube) := by
  obtain ⟨hf, hks, h0, h1, ht, h2, h3, h20, h4, h5⟩ := h
  have hd : Down ks (lenS p) := by rw [hks]; exact fits_down hf
  obtain ⟨_, _, g3, _⟩ := checkT_ok (fitsS_ok hf).1
  have hr := (sumT_rng (l.drop (tube + 1).toNat) (g3.drop _)).1
  have htop : 0 ≤ top := by omega
  have hlt : top < to := by
    rcases Int.lt_or_le top to with h | h
    · exact h
    · have e2 : to = top := by omega
      have e3 := h4 e2
      rw [tubeS_nil _ _ _ h, List.drop_eq_nil_of_le (by omega), pcsL_nil] at h5
      cases h5
  obtain ⟨l1, l2, l3, l4⟩ := legOf_ok hd (show 0 < to by omega) h3
  rw [tubeS_step hd tube htop hlt h3, List.cons_append] at h5
  injection h5 with hq hrest
  subst hq
  have hm : top ≤ maxI top (knotA ks (legOf ks to)) ∧ maxI top (knotA ks (legOf ks to)) < to ∧ knotA ks (legOf ks to) ≤ maxI top (knotA ks (legOf ks to)) ∧ (maxI top (knotA ks (legOf ks to)) > top → maxI top (knotA ks (legOf ks to)) = knotA ks (legOf ks to)) := by rw [maxI_eq]; omega
  generalize maxI top (knotA ks (legOf ks to)) = fr at *
  dsimp only
  refine ⟨rfl, hm.2.1, by omega, l1, l2, hm.2.2.1, l4, rfl, hm.1, hm.2.2.2, fun e hlen => ?_, fun hn => ?_⟩
  · subst e
    have hs := sumT_step (l := l) (i := tube + 1) (by omega) hlen
    have hp := (g3 _ (mem_getD (d := zT) (show 0 ≤ tube + 1 by omega) hlen)).prod
    have hr2 := (sumT_rng (l.drop (tube + 1 + 1).toNat) (g3.drop _)).1
    rw [tubeS_nil _ _ _ (Int.le_refl _), List.nil_append] at hrest
    refine ⟨hf, hks, by omega, hlen, by omega, by omega, by omega, by omega, fun h => absurd h (by omega), ?_⟩
    rw [hrest, pcsL_step (by omega) hlen]
  · refine ⟨hf, hks, h0, h1, ht, hm.1, by omega, by omega, fun e => ?_, hrest⟩
    have : ¬ tube + 1 < l.length := fun h => hn ⟨e, h⟩
    omega
theorem atPc_start {l : List Tb} {p : Pth} (hf : fitsS l p = 0) : AtPc l p (knots p.1 p.2) (pcsS l p) (sumT l) (sumT l - (l.getD 0 zT).1 * (l.getD 0 zT).2.1) 0 ∧ pcsS l p ≠ [] := by
  obtain ⟨f1, f2, f3⟩ := fitsS_ok hf
  obtain ⟨g1, g2, g3, g4⟩ := checkT_ok f1
  have hl : (0 : Int) < l.length := by omega
  have hs := sumT_step (l := l) (i := 0) (by decide) hl
  have hp := (g3 _ (mem_getD (d := zT) (show (0 : Int) ≤ 0 by decide) hl)).prod
  have hr := (sumT_rng (l.drop (0 + 1 : Int).toNat) (g3.drop _)).1
  have e0 : l.drop (0 : Int).toNat = l := rfl
  have e1 : l.getD (0 : Int).toNat zT = l.getD 0 zT := rfl
  rw [e0, e1] at hs
  rw [e1] at hp
  have hpc : pcsS l p = tubeS (knots p.1 p.2) 0 (sumT l - (l.getD 0 zT).1 * (l.getD 0 zT).2.1) (sumT l) ++ pcsL (knots p.1 p.2) (0 + 1) (sumT l - (l.getD 0 zT).1 * (l.getD 0 zT).2.1) (l.drop (0 + 1 : Int).toNat) := by
    unfold pcsS
    rw [if_pos hf]
    have := pcsL_step (ks := knots p.1 p.2) (i := 0) (to := sumT l) (l := l) (by decide) hl
    rw [e0, e1] at this
    exact this
  refine ⟨⟨hf, rfl, by decide, hl, by omega, by omega, f3, g4, fun h => absurd h (by omega), hpc⟩, ?_⟩
  rw [hpc, tubeS_step (fits_down hf) 0 (by omega) (by omega) f3]
  exact fun h => by cases h
def L_PipeWholeL : Lay := { slots := [(4, .ptr 5179 0), (7, .val (.sl (.pair tI tV))), (8, .val (.sl tPart)), (9, .val tI), (10, .val tI), (11, .val tI), (12, .val tI)], boxes := [(5179, [.val tTs])] }
def L_PipeWholeL_0 : Lay := { slots := [(2, .val .bool)] }
def L_PipeWholeL_1 : Lay := { slots := [(7, .val (.sl (.pair tI tV))), (9, .val tI)] }
def X_PipeWholeL : Exit → St → Option Lay
  | .ret, _ => some L_PipeWholeL_0
  | .exit 0, _ => some L_PipeWholeL_1
  | _, _ => none
abbrev C_PipeWholeL : Code := loopC (bodyOf Try.f8) 0
theorem B_PipeWholeL (l : List (Int × V)) (ks : List (Int × Int)) (to top tube i : Int) (s_0 : List Tb) : loopBodyA (P := P) [] (lpOf []) [] 179 noU (inner C_PipeWholeL) L_PipeWholeL X_PipeWholeL (α := Unit × List (Int × V) × List (Int × Int) × Int × Int × Int × Int × List Tb × Unit) (fun x => x) (fun x => x) ((), l, ks, to, top, tube, i, s_0, ()) =
  Tree.cond (decide (i < (↑(List.length l) : Int))) (Tree.need ((0 : Int) ≤ i ∧ i < (↑(List.length l) : Int)) (Tree.cond ((List.getD l (Int.toNat i) ((0 : Int), (0 : Int), (0 : Int), (0 : Int))).snd.snd.snd != to) (Tree.leaf (Sum.inr (Exit.ret, Lay.st L_PipeWholeL_0 noU (false, PUnit.unit)))) (Tree.cond (decide ((List.getD l (Int.toNat i) ((0 : Int), (0 : Int), (0 : Int), (0 : Int))).snd.snd.fst ≥ (List.getD l (Int.toNat i) ((0 : Int), (0 : Int), (0 : Int), (0 : Int))).snd.snd.snd)) (Tree.leaf (Sum.inr (Exit.ret, Lay.st L_PipeWholeL_0 noU (false, PUnit.unit)))) (Tree.cond (decide ((List.getD l (Int.toNat i) ((0 : Int), (0 : Int), (0 : Int), (0 : Int))).snd.snd.fst < (0 : Int))) (Tree.leaf (Sum.inr (Exit.ret, Lay.st L_PipeWholeL_0 noU (false, PUnit.unit)))) (Tree.cond (decide ((List.getD l (Int.toNat i) ((0 : Int), (0 : Int), (0 : Int), (0 : Int))).snd.fst < (0 : Int))) (Tree.leaf (Sum.inr (Exit.ret, Lay.st L_PipeWholeL_0 noU (false, PUnit.unit)))) (Tree.cond (decide (IntKind.wrap IntKind.i64 ((List.getD l (Int.toNat i) ((0 : Int), (0 : Int), (0 : Int), (0 : Int))).snd.fst + (1 : Int)) ≥ (↑(List.length ks) : Int))) (Tree.leaf (Sum.inr (Exit.ret, Lay.st L_PipeWholeL_0 noU (false, PUnit.unit)))) (Tree.need ((0 : Int) ≤ (List.getD l (Int.toNat i) ((0 : Int), (0 : Int), (0 : Int), (0 : Int))).snd.fst ∧ (List.getD l (Int.toNat i) ((0 : Int), (0 : Int), (0 : Int), (0 : Int))).snd.fst < (↑(List.length ks) : Int)) (Tree.cond (decide ((List.getD ks (Int.toNat (List.getD l (Int.toNat i) ((0 : Int), (0 : Int), (0 : Int), (0 : Int))).snd.fst) ((0 : Int), (0 : Int))).fst > (List.getD l (Int.toNat i) ((0 : Int), (0 : Int), (0 : Int), (0 : Int))).snd.snd.fst)) (Tree.leaf (Sum.inr (Exit.ret, Lay.st L_PipeWholeL_0 noU (false, PUnit.unit)))) (Tree.need ((0 : Int) ≤ IntKind.wrap IntKind.i64 ((List.getD l (Int.toNat i) ((0 : Int), (0 : Int), (0 : Int), (0 : Int))).snd.fst + (1 : Int)) ∧ IntKind.wrap IntKind.i64 ((List.getD l (Int.toNat i) ((0 : Int), (0 : Int), (0 : Int), (0 : Int))).snd.fst + (1 : Int)) < (↑(List.length ks) : Int)) (Tree.cond (decide ((List.getD ks (Int.toNat (IntKind.wrap IntKind.i64 ((List.getD l (Int.toNat i) ((0 : Int), (0 : Int), (0 : Int), (0 : Int))).snd.fst + (1 : Int)))) ((0 : Int), (0 : Int))).fst < (List.getD l (Int.toNat i) ((0 : Int), (0 : Int), (0 : Int), (0 : Int))).snd.snd.snd)) (Tree.leaf (Sum.inr (Exit.ret, Lay.st L_PipeWholeL_0 noU (false, PUnit.unit)))) (Tree.cond ((List.getD l (Int.toNat i) ((0 : Int), (0 : Int), (0 : Int), (0 : Int))).fst != tube) (Tree.leaf (Sum.inr (Exit.ret, Lay.st L_PipeWholeL_0 noU (false, PUnit.unit)))) (Tree.cond (decide ((List.getD l (Int.toNat i) ((0 : Int), (0 : Int), (0 : Int), (0 : Int))).snd.snd.fst < top)) (Tree.leaf (Sum.inr (Exit.ret, Lay.st L_PipeWholeL_0 noU (false, PUnit.unit)))) (Tree.cond (decide ((List.getD l (Int.toNat i) ((0 : Int), (0 : Int), (0 : Int), (0 : Int))).snd.snd.fst > top)) (Tree.need ((0 : Int) ≤ (List.getD l (Int.toNat i) ((0 : Int), (0 : Int), (0 : Int), (0 : Int))).snd.fst ∧ (List.getD l (Int.toNat i) ((0 : Int), (0 : Int), (0 : Int), (0 : Int))).snd.fst < (↑(List.length ks) : Int)) (Tree.cond ((List.getD l (Int.toNat i) ((0 : Int), (0 : Int), (0 : Int), (0 : Int))).snd.snd.fst != (List.getD ks (Int.toNat (List.getD l (Int.toNat i) ((0 : Int), (0 : Int), (0 : Int), (0 : Int))).snd.fst) ((0 : Int), (0 : Int))).fst) (Tree.leaf (Sum.inr (Exit.ret, Lay.st L_PipeWholeL_0 noU (false, PUnit.unit)))) (Tree.cond ((List.getD l (Int.toNat i) ((0 : Int), (0 : Int), (0 : Int), (0 : Int))).snd.snd.fst == top) (Tree.cond (decide (IntKind.wrap IntKind.i64 (tube + (1 : Int)) < (↑(List.length s_0) : Int))) (Tree.need ((0 : Int) ≤ IntKind.wrap IntKind.i64 (tube + (1 : Int)) ∧ IntKind.wrap IntKind.i64 (tube + (1 : Int)) < (↑(List.length s_0) : Int)) (Tree.need ((0 : Int) ≤ IntKind.wrap IntKind.i64 (tube + (1 : Int)) ∧ IntKind.wrap IntKind.i64 (tube + (1 : Int)) < (↑(List.length s_0) : Int)) (Tree.leaf (Sum.inl (PUnit.unit, l, ks, (List.getD l (Int.toNat i) ((0 : Int), (0 : Int), (0 : Int), (0 : Int))).snd.snd.fst, IntKind.wrap IntKind.i64 (top - IntKind.wrap IntKind.i64 ((List.getD s_0 (Int.toNat (IntKind.wrap IntKind.i64 (tube + (1 : Int)))) ((0 : Int), (0 : Int), (0 : Int), (0 : Int), (0 : Int), (0 : Int), (0 : Int), (0 : Int), (0 : Int))).fst * (List.getD s_0 (Int.toNat (IntKind.wrap IntKind.i64 (tube + (1 : Int)))) ((0 : Int), (0 : Int), (0 : Int), (0 : Int), (0 : Int), (0 : Int), (0 : Int), (0 : Int), (0 : Int))).snd.fst)), IntKind.wrap IntKind.i64 (tube + (1 : Int)), IntKind.wrap IntKind.i64 (i + (1 : Int)), s_0, PUnit.unit))))) (Tree.leaf (Sum.inl (PUnit.unit, l, ks, (List.getD l (Int.toNat i) ((0 : Int), (0 : Int), (0 : Int), (0 : Int))).snd.snd.fst, top, tube, IntKind.wrap IntKind.i64 (i + (1 : Int)), s_0, PUnit.unit)))) (Tree.leaf (Sum.inl (PUnit.unit, l, ks, (List.getD l (Int.toNat i) ((0 : Int), (0 : Int), (0 : Int), (0 : Int))).snd.snd.fst, top, tube, IntKind.wrap IntKind.i64 (i + (1 : Int)), s_0, PUnit.unit)))))) (Tree.cond ((List.getD l (Int.toNat i) ((0 : Int), (0 : Int), (0 : Int), (0 : Int))).snd.snd.fst == top) (Tree.cond (decide (IntKind.wrap IntKind.i64 (tube + (1 : Int)) < (↑(List.length s_0) : Int))) (Tree.need ((0 : Int) ≤ IntKind.wrap IntKind.i64 (tube + (1 : Int)) ∧ IntKind.wrap IntKind.i64 (tube + (1 : Int)) < (↑(List.length s_0) : Int)) (Tree.need ((0 : Int) ≤ IntKind.wrap IntKind.i64 (tube + (1 : Int)) ∧ IntKind.wrap IntKind.i64 (tube + (1 : Int)) < (↑(List.length s_0) : Int)) (Tree.leaf (Sum.inl (PUnit.unit, l, ks, (List.getD l (Int.toNat i) ((0 : Int), (0 : Int), (0 : Int), (0 : Int))).snd.snd.fst, IntKind.wrap IntKind.i64 (top - IntKind.wrap IntKind.i64 ((List.getD s_0 (Int.toNat (IntKind.wrap IntKind.i64 (tube + (1 : Int)))) ((0 : Int), (0 : Int), (0 : Int), (0 : Int), (0 : Int), (0 : Int), (0 : Int), (0 : Int), (0 : Int))).fst * (List.getD s_0 (Int.toNat (IntKind.wrap IntKind.i64 (tube + (1 : Int)))) ((0 : Int), (0 : Int), (0 : Int), (0 : Int), (0 : Int), (0 : Int), (0 : Int), (0 : Int), (0 : Int))).snd.fst)), IntKind.wrap IntKind.i64 (tube + (1 : Int)), IntKind.wrap IntKind.i64 (i + (1 : Int)), s_0, PUnit.unit))))) (Tree.leaf (Sum.inl (PUnit.unit, l, ks, (List.getD l (Int.toNat i) ((0 : Int), (0 : Int), (0 : Int), (0 : Int))).snd.snd.fst, top, tube, IntKind.wrap IntKind.i64 (i + (1 : Int)), s_0, PUnit.unit)))) (Tree.leaf (Sum.inl (PUnit.unit, l, ks, (List.getD l (Int.toNat i) ((0 : Int), (0 : Int), (0 : Int), (0 : Int))).snd.snd.fst, top, tube, IntKind.wrap IntKind.i64 (i + (1 : Int)), s_0, PUnit.unit))))))))))))))))) (Tree.leaf (Sum.inr (Exit.exit (0 : Nat), Lay.st L_PipeWholeL_1 noU (l, to, PUnit.unit)))) := by kernel_rfl
def inv_PipeWholeL : Unit × List (Int × V) × List (Int × Int) × Int × Int × Int × Int × List Tb × Unit → Prop := fun ((), l, ks, to, top, tube, i, s_0, ()) => 0 ≤ i ∧ i ≤ l.length ∧ (l.length : Int) < 2 ^ 62 ∧ (ks.length : Int) ≤ 1000 ∧ ∃ p, AtPc s_0 p ks (l.drop i.toNat) to top tube
def O_PipeWholeL : Unit × List (Int × V) × List (Int × Int) × Int × Int × Int × Int × List Tb × Unit → Tree (Exit × St) := fun ((), l, ks, to, top, tube, i, s_0, ()) => (.leaf (.exit 0, L_PipeWholeL_1.st noU (l, ((0 : Int)), ())))
def R_PipeWholeL : LRun := runOf 179 L_PipeWholeL (fun x => x) (inv_PipeWholeL) (O_PipeWholeL)
theorem K_PipeWholeL : LoopOk P [] 179 none noU C_PipeWholeL (R_PipeWholeL) := by
  refine loop_of hm (cx := []) [] (xl := X_PipeWholeL) (α := Unit × List (Int × V) × List (Int × Int) × Int × Int × Int × Int × List Tb × Unit) (fun x => x) (fun ((), l, ks, to, top, tube, i, s_0, ()) => (l.length - i).toNat) (fun _ => rfl) (by kernel_rfl) (by kernel_rfl) ?_ (by kernel_rfl) trivial ?_
  · intro e S L' h
    unfold X_PipeWholeL at h
    split at h <;> first | (cases h; done) | (cases h; kernel_rfl) | (rcases bif_some h with h | h <;> cases h <;> kernel_rfl)
  · rintro ⟨⟨⟩, l, ks, to, top, tube, i, s_0, ⟨⟩⟩ hinv Q hQ
    refine hold_of_eq (B_PipeWholeL l ks to top tube i s_0) ?_
    obtain ⟨h0, h1, h2, h3, p, hat⟩ := hinv
    rw [W_id (n := i + 1) (by omega) (by omega)]
    unfold O_PipeWholeL at hQ
    dsimp only at hQ
    refine ⟨fun c1 => ?_, fun c1 => ?_⟩
    · have c1 := of_decide_eq_true c1
      rw [drop_step (0, 0, 0, 0) h0 c1] at hat
      obtain ⟨g1, g2, g3, g4⟩ := checkT_ok (fitsS_ok hat.1).1
      have t0 := hat.2.2.1
      have t1 := hat.2.2.2.1
      have t2 := hat.2.2.2.2.2.1
      have t3 := hat.2.2.2.2.2.2.2.1
      have t4 := hat.2.2.2.2.1
      have t5 := (sumT_rng (s_0.drop (tube + 1).toNat) (g3.drop _)).1
      obtain ⟨a1, a2, a3, a4, a5, a6, a7, a8, a9, a10, a11, a12⟩ := atPc_next hat
      generalize l.getD i.toNat (0, 0, 0, 0) = x at *
      have hm : ((l.length : Int) - (i + 1)).toNat < ((l.length : Int) - i).toNat := by omega
      have i1 : 0 ≤ i ∧ i < (l.length : Int) := ⟨h0, c1⟩
      have b6 : (ks.getD x.2.1.toNat (0, 0)).1 ≤ x.2.2.1 := a6
      have b7 : to ≤ (ks.getD (x.2.1 + 1).toNat (0, 0)).1 := a7
      have b10 : x.2.2.1 > top → x.2.2.1 = (ks.getD x.2.1.toNat (0, 0)).1 := a10
      rw [W_id (n := x.2.1 + 1) (by omega) (by omega), W_id (n := tube + 1) (by omega) (by omega)]
      have k1 : 0 ≤ x.2.1 ∧ x.2.1 < (ks.length : Int) := by omega
      have k2 : 0 ≤ x.2.1 + 1 ∧ x.2.1 + 1 < (ks.length : Int) := by omega
      refine ⟨i1, fun d => absurd d (by simp [a1]), fun _ => ⟨fun d => absurd (of_decide_eq_true d) (by omega), fun _ => ⟨fun d => absurd (of_decide_eq_true d) (by omega), fun _ => ⟨fun d => absurd (of_decide_eq_true d) (by omega), fun _ => ⟨fun d => absurd (of_decide_eq_true d) (by omega), fun _ => ⟨k1, fun d => absurd (of_decide_eq_true d) (by omega), fun _ => ⟨k2, fun d => absurd (of_decide_eq_true d) (by omega), fun _ => ⟨fun d => absurd d (by simp [a8]), fun _ => ⟨fun d => absurd (of_decide_eq_true d) (by omega), fun _ => ⟨fun c11 => ⟨k1, fun d => absurd d (by rw [b10 (of_decide_eq_true c11)]; simp), fun _ => ?_⟩, fun c11 => ?_⟩⟩⟩⟩⟩⟩⟩⟩⟩⟩
      · refine ⟨fun d1 => ⟨fun d2 => ?_, fun d2 => ?_⟩, fun d1 => ?_⟩
        · have d1 := eq_of_beq d1
          have d2 := of_decide_eq_true d2
          have hf := (g3 _ (mem_getD (d := zT) (show 0 ≤ tube + 1 by omega) d2)).prod
          have hn := a11 d1 d2
          generalize s_0.getD (tube + 1).toNat zT = u at *
          rw [W_id (n := u.1 * u.2.1) (by omega) (by omega), W_id (n := top - u.1 * u.2.1) (by omega) (by omega), d1]
          exact ⟨⟨by omega, d2⟩, ⟨by omega, d2⟩, ⟨⟨by omega, by omega, h2, h3, p, hn⟩, hm⟩, hQ⟩
        · have d2 := of_decide_eq_false d2
          exact ⟨⟨⟨by omega, by omega, h2, h3, p, a12 (fun h => d2 h.2)⟩, hm⟩, hQ⟩
        · have d1 : x.2.2.1 ≠ top := by simpa using d1
          exact ⟨⟨⟨by omega, by omega, h2, h3, p, a12 (fun h => d1 h.1)⟩, hm⟩, hQ⟩
      · refine ⟨fun d1 => ⟨fun d2 => ?_, fun d2 => ?_⟩, fun d1 => ?_⟩
        · have d1 := eq_of_beq d1
          have d2 := of_decide_eq_true d2
          have hf := (g3 _ (mem_getD (d := zT) (show 0 ≤ tube + 1 by omega) d2)).prod
          have hn := a11 d1 d2
          generalize s_0.getD (tube + 1).toNat zT = u at *
          rw [W_id (n := u.1 * u.2.1) (by omega) (by omega), W_id (n := top - u.1 * u.2.1) (by omega) (by omega), d1]
          exact ⟨⟨by omega, d2⟩, ⟨by omega, d2⟩, ⟨⟨by omega, by omega, h2, h3, p, hn⟩, hm⟩, hQ⟩
        · have d2 := of_decide_eq_false d2
          exact ⟨⟨⟨by omega, by omega, h2, h3, p, a12 (fun h => d2 h.2)⟩, hm⟩, hQ⟩
        · have d1 : x.2.2.1 ≠ top := by simpa using d1
          exact ⟨⟨⟨by omega, by omega, h2, h3, p, a12 (fun h => d1 h.1)⟩, hm⟩, hQ⟩
    · have c1 := of_decide_eq_false c1
      rw [drop_end c1] at hat
      have e := atPc_end hat rfl
      rw [← e] at hQ
      exact hQ
theorem T_PipeWhole (s0 : List Int) : fnTree (P := P) [c_made.gc, c_awake.gc, c_Pieces.gc, c_Vert.gc, c_TLength.gc] (lpOf [(0, R_PipeWholeL)]) Try.f8 (encL 0 [.val tIs] (s0, ())) =
  Tree.need (pr_made (s0, ())) (Tree.cond (!(V_made (s0, ())).snd.snd.snd) (Tree.leaf (SV.bool true)) (Tree.need ((↑(List.length (V_made (s0, ())).snd.fst) : Int) < (2 : Int) ^ (62 : Nat)) (Tree.need ((↑(List.length (V_made (s0, ())).snd.fst) : Int) < (2 : Int) ^ (62 : Nat)) (Tree.cond (decide ((↑(List.length (V_made (s0, ())).snd.fst) : Int) > (0 : Int))) (Tree.need ((0 : Int) ≤ (0 : Int) ∧ (0 : Int) < (↑(List.length (V_made (s0, ())).snd.fst) : Int)) (Tree.need ((0 : Int) ≤ (0 : Int) ∧ (0 : Int) < (↑(List.length (V_made (s0, ())).snd.fst) : Int)) (Tree.need (inv_PipeWholeL ((), pcsS (V_made (s0, ())).snd.fst (V_made (s0, ())).fst, vertS (V_made (s0, ())).fst, lenT (V_made (s0, ())).snd.fst, IntKind.wrap IntKind.i64 (lenT (V_made (s0, ())).snd.fst - IntKind.wrap IntKind.i64 ((List.getD (V_made (s0, ())).snd.fst (Int.toNat (0 : Int)) ((0 : Int), (0 : Int), (0 : Int), (0 : Int), (0 : Int), (0 : Int), (0 : Int), (0 : Int), (0 : Int))).fst * (List.getD (V_made (s0, ())).snd.fst (Int.toNat (0 : Int)) ((0 : Int), (0 : Int), (0 : Int), (0 : Int), (0 : Int), (0 : Int), (0 : Int), (0 : Int), (0 : Int))).snd.fst)), (0 : Int), (0 : Int), (V_made (s0, ())).snd.fst, ())) (Tree.cond true (Tree.cond (decide ((↑(List.length (pcsS (V_made (s0, ())).snd.fst (V_made (s0, ())).fst)) : Int) > (0 : Int))) (Tree.leaf (SV.bool true)) (Tree.leaf (SV.bool false))) (Tree.leaf (SV.bool false)))))) (Tree.need (inv_PipeWholeL ((), pcsS (V_made (s0, ())).snd.fst (V_made (s0, ())).fst, vertS (V_made (s0, ())).fst, lenT (V_made (s0, ())).snd.fst, lenT (V_made (s0, ())).snd.fst, (0 : Int), (0 : Int), (V_made (s0, ())).snd.fst, ())) (Tree.cond true (Tree.cond (decide ((↑(List.length (pcsS (V_made (s0, ())).snd.fst (V_made (s0, ())).fst)) : Int) > (0 : Int))) (Tree.leaf (SV.bool true)) (Tree.leaf (SV.bool false))) (Tree.leaf (SV.bool false)))))))) := by kernel_rfl
def c_PipeWhole : PC P := PC.of (α := List Int × Unit) 8 [.val tIs] (fun x => x) (fun x => x) (fun _ => rfl)
  (fun _ => none)
  (fun x => .bool true) (by kernel_rfl) (by
    rintro ⟨s0, ⟨⟩⟩ hp
    refine fn_of hm (by kernel_rfl) (by kernel_rfl) (T_PipeWhole s0) ⟨K_PipeWholeL, trivial⟩ ?_
    try dsimp only at hp
    try dsimp only
    have hS := S_made (s0, ()) trivial
    generalize V_made (s0, ()) = m at *
    obtain ⟨p, l, c, is⟩ := m
    obtain ⟨h1, h2, h3, h4, h5, h6, h7, h8, h9, h10⟩ := hS
    dsimp only at h1 h2 h3 h4 h5 h6 h7 h8 h9 h10 ⊢
    have hlen : (l.length : Int) < 2 ^ 62 := by omega
    refine ⟨trivial, fun d1 => rfl, fun d1 => ?_⟩
    obtain ⟨hf, _⟩ := h2 (by simpa using d1)
    obtain ⟨f1, f2, f3⟩ := fitsS_ok hf
    obtain ⟨g1, g2, g3, g4⟩ := checkT_ok f1
    obtain ⟨hs, hne⟩ := atPc_start hf
    have hk := knots_length p.1 p.2
    have hp := checkS_len f2
    have e1 : lenT l = sumT l := by unfold lenT; rw [if_pos f1]
    have hl : (0 : Int) < l.length := by omega
    have hfair := (g3 _ (mem_getD (d := zT) (show (0 : Int) ≤ 0 by decide) hl)).prod
    have e2 : l.getD (0 : Int).toNat (0, 0, 0, 0, 0, 0, 0, 0, 0) = l.getD 0 zT := rfl
    have e3 : l.getD (0 : Int).toNat zT = l.getD 0 zT := rfl
    have hsum := sumT_rng l g3
    rw [e3] at hfair
    have hne' : 0 < (pcsS l p).length := List.length_pos_iff.2 hne
    rw [vertS_fits hf, e1, e2, W_id (n := (l.getD 0 zT).1 * (l.getD 0 zT).2.1) (by omega) (by omega), W_id (n := sumT l - (l.getD 0 zT).1 * (l.getD 0 zT).2.1) (by omega) (by omega)]
    refine ⟨hlen, hlen, fun d2 => ⟨⟨by decide, hl⟩, ⟨by decide, hl⟩, ⟨by decide, by omega, pcsS_len _ _, by omega, p, hs⟩, fun d3 => ⟨fun d4 => rfl, fun d4 => absurd (of_decide_eq_false d4) (by omega)⟩, fun d3 => (by cases d3)⟩, fun d2 => absurd (of_decide_eq_false d2) (by omega)⟩)
end
end Go.MP
