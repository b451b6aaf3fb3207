/- The reference's Ticks, Next and Ready. -/
import Derived.Test.YtmolckndbmjgfaaMrAo
namespace Go.MR
open Go Go.Sx Go.Proofs
set_option linter.unusedVariables false
set_option linter.unusedSimpArgs false
noncomputable section
theorem madT_rows {ps : List Int} {g : List (Int × Int)} {mv : List (List (List Int))} {N losses : Int} (hlo : losses ≤ 2) (hN : 0 ≤ N) : ∀ (j : Nat) (k most : Int) (T : Rows3), 0 ≤ k → k + j = losses + 1 → RowsK T (k - 1) N → RowsK (madT ps g mv N j k most T) losses N
  | 0, k, most, T, _, h1, h2 => by
    rw [show k - 1 = losses by omega] at h2
    exact h2
  | j + 1, k, most, T, h0, h1, h2 => by
    rw [madT]
    have hrows : RowsK (row0 ps g mv N k T) k N := rows_set ⟨h0, by omega⟩ h2 (by rw [fillT_len, List.length_replicate]; omega)
    have := layT_rows (ps := ps) (mv := mv) ⟨h0, by omega⟩ 64 1 most _ hrows
    exact madT_rows hlo hN j (k + 1) _ _ (by omega) (by omega) (by rw [show k + 1 - 1 = k by omega]; exact this)
theorem madeT_rows {ps : List Int} {bs : List Ban} {g : List (Int × Int)} {losses : Int} (h : RgOk ps bs) (h0 : 0 ≤ losses) (h1 : losses ≤ 2) : RowsK (madeT ps bs g losses) losses (prodL ps) := by
  have hp := h.pr
  unfold madeT
  rw [h.many]
  exact madT_rows h1 (by omega) _ 0 _ _ (by omega) (by omega) (fun l q0 q1 => by omega)
theorem reD_unsafe {ps : List Int} {bs : List Ban} {g : List (Int × Int)} {l : Nat} {s : List Int} (h : safeS ps bs s = false) : ∀ d : Nat, reD ps bs g d l s = false
  | 0 => by rw [reD, h, Bool.false_and]
  | d + 1 => by rw [reD, reD_unsafe h d, h, Bool.false_and, Bool.false_or]
theorem tickD_unsafe {ps : List Int} {bs : List Ban} {g : List (Int × Int)} {l : Nat} {s : List Int} (h : safeS ps bs s = false) : tickD ps bs g l s = -1 := by
  unfold tickD
  rcases lst_spec (fun d => reD ps bs g d l s) 65 with ⟨h1, _⟩ | ⟨k, _, _, h3, _⟩
  · exact h1
  · have h3' : reD ps bs g k l s = true := h3
    rw [reD_unsafe h k] at h3'
    cases h3'
def rrdR (r : Rig) (row : List Int) : Nat → Int → Int × Int → Int × Int
  | 0, _, x => x
  | k + 1, i, x => rrdR r row k (i + 1) (if row.getD i.toNat 0 > x.1 then (row.getD i.toNat 0, x.2) else if row.getD i.toNat 0 < 0 ∧ stateS r (stS r.1 i) = 0 then (x.1, IntKind.wrap IntKind.i64 (x.2 + 1)) else x)
theorem rrdR_eq {r : Rig} {g : List (Int × Int)} {l : Nat} (hc : checkS r = 0) (hl : l ≤ 2) : ∀ (k : Nat) (n : Int) (x : Int × Int), 0 ≤ n → n + k ≤ prodL r.1 → 0 ≤ x.1 →
    rrdR r (getT (madeT r.1 r.2 g (l : Int)) (l : Int)) k n x = rdyR (cntSf r.1 r.2 g) (cntTk r.1 r.2 g (l : Int)) (l : Int) k n x
  | 0, _, _, _, _, _ => rfl
  | k + 1, n, x, h0, h1, h2 => by
    obtain ⟨k1, k2, k3, k4, k5⟩ := checkS_ok hc
    have hr : RgOk r.1 r.2 := ⟨k1, k2, k3⟩
    obtain ⟨hv, hnum⟩ := hr.st h0 (show n < prodL r.1 by omega)
    have e1 := madeT_ok (g := g) (losses := l) hl hc (Nat.le_refl l) hv
    have e2 := (cntTk_inv hr g hl).2 l _ (Nat.le_refl l) hv
    have e3 := (init0_get hr g hl hv).2
    unfold tkL at e2
    rw [hnum] at e1 e2 e3
    have hst := Sf.state.state_of' hc hv
    have e2' : (cntTk r.1 r.2 g (l : Int)).getD ((l : Int).toNat * 4096 + n.toNat) 0 = tickD r.1 r.2 g l (stS r.1 n) := by rw [Int.toNat_natCast]; exact e2
    have ht := tickD_rng r.1 r.2 g l (stS r.1 n)
    rw [rrdR, rdyR, e1, e2', e3, W_id (n := tickD r.1 r.2 g l (stS r.1 n)) (by omega) (by omega)]
    cases hs : safeS r.1 r.2 (stS r.1 n) with
    | false =>
      rw [hs, if_neg (by decide)] at hst
      rw [tickD_unsafe hs, if_neg (by omega), if_neg (by rw [hst]; simp), if_pos rfl]
      exact rrdR_eq hc hl k (n + 1) x (by omega) (by omega) h2
    | true =>
      rw [hs, if_pos rfl] at hst
      rw [if_neg (show ¬ true = false by decide)]
      generalize tickD r.1 r.2 g l (stS r.1 n) = v at *
      by_cases c : v < 0
      · rw [if_neg (by omega), if_pos ⟨c, hst⟩, if_pos c]
        exact rrdR_eq hc hl k (n + 1) (x.1, _) (by omega) (by omega) h2
      · rw [if_neg (fun q : v < 0 ∧ _ => c q.1), if_neg c]
        by_cases d : v > x.1
        · rw [if_pos d, show maxI x.1 v = v by unfold maxI; split <;> omega]
          exact rrdR_eq hc hl k (n + 1) (v, x.2) (by omega) (by omega) (by show 0 ≤ v; omega)
        · rw [if_neg d, show (maxI x.1 v, x.2) = x by rw [show maxI x.1 v = x.1 by unfold maxI; split <;> omega]]
          exact rrdR_eq hc hl k (n + 1) x (by omega) (by omega) h2
def L_rrdy0 : Lay := { slots := [(2, .val tI), (3, .ptr 4066 0), (10, .ptr 31066 0), (11, .val tI), (12, .val tI), (13, .val tI)], boxes := [(4066, [.val tIs, .val (.sl (.pair tI (.pair tI (.pair tI tV))))]), (31066, [.val tIs, .val (.sl (.pair tI (.pair tI (.pair tI tV)))), .val tIs, .val tIs, .val tIs])] }
def L_rrdy0_0 : Lay := { slots := [(11, .val tI), (12, .val tI)] }
def X_rrdy0 : Exit → St → Option Lay
  | .exit 0, _ => some L_rrdy0_0
  | _, _ => none
abbrev C_rrdy0 : Code := loopC (bodyOf Try.f49) 0
theorem B_rrdy0 (losses w st i : Int) (ps : List Int) (bs : List (Int × (Int × (Int × V)))) (ps' : List Int) (bs' : List (Int × (Int × (Int × V)))) (t0 t1 t2 : List Int) : loopBodyA (P := P) [c_rmany.gc, c_rState.gc, c_rstate.gc, c_flagL] (lpOf []) [] 66 noU (inner C_rrdy0) L_rrdy0 X_rrdy0 (α := Int × Unit × Unit × Int × Int × Int × List Int × List (Int × (Int × (Int × V))) × List Int × List (Int × (Int × (Int × V))) × List Int × List Int × List Int × Unit) (fun x => x) (fun x => x) (losses, (), (), w, st, i, ps, bs, ps', bs', t0, t1, t2, ()) =
  Tree.need (List.length ps ≤ (1000 : Nat)) (Tree.cond (decide (i < manyW ps (1 : Int))) (Tree.cond (decide (losses = (↑(nat_lit 2) : Int))) (Tree.need ((0 : Int) ≤ (↑(nat_lit 2) : Int) ∧ (↑(nat_lit 2) : Int) < (↑(3 : Nat) : Int)) (Tree.need ((0 : Int) ≤ i ∧ i < (↑(List.length t2) : Int)) (Tree.cond (decide (List.getD t2 (Int.toNat i) (0 : Int) > w)) (Tree.leaf (Sum.inl (losses, PUnit.unit, PUnit.unit, List.getD t2 (Int.toNat i) (0 : Int), st, IntKind.wrap IntKind.i64 (i + (1 : Int)), ps, bs, ps', bs', t0, t1, t2, PUnit.unit))) (Tree.cond (decide (List.getD t2 (Int.toNat i) (0 : Int) < (0 : Int))) (Tree.need (List.length ps ≤ (1000 : Nat) ∧ List.any ps badP = false) (Tree.need ((↑(List.length (stS ps i)) : Int) < (2 : Int) ^ (62 : Nat)) (Tree.cond (stateS (ps, bs) (stS ps i) == (0 : Int)) (Tree.leaf (Sum.inl (losses, PUnit.unit, PUnit.unit, w, IntKind.wrap IntKind.i64 (st + (1 : Int)), IntKind.wrap IntKind.i64 (i + (1 : Int)), ps, bs, ps', bs', t0, t1, t2, PUnit.unit))) (Tree.leaf (Sum.inl (losses, PUnit.unit, PUnit.unit, w, st, IntKind.wrap IntKind.i64 (i + (1 : Int)), ps, bs, ps', bs', t0, t1, t2, PUnit.unit)))))) (Tree.leaf (Sum.inl (losses, PUnit.unit, PUnit.unit, w, st, IntKind.wrap IntKind.i64 (i + (1 : Int)), ps, bs, ps', bs', t0, t1, t2, PUnit.unit))))))) (Tree.cond (decide (losses = (↑(nat_lit 1) : Int))) (Tree.need ((0 : Int) ≤ (↑(nat_lit 1) : Int) ∧ (↑(nat_lit 1) : Int) < (↑(3 : Nat) : Int)) (Tree.need ((0 : Int) ≤ i ∧ i < (↑(List.length t1) : Int)) (Tree.cond (decide (List.getD t1 (Int.toNat i) (0 : Int) > w)) (Tree.leaf (Sum.inl (losses, PUnit.unit, PUnit.unit, List.getD t1 (Int.toNat i) (0 : Int), st, IntKind.wrap IntKind.i64 (i + (1 : Int)), ps, bs, ps', bs', t0, t1, t2, PUnit.unit))) (Tree.cond (decide (List.getD t1 (Int.toNat i) (0 : Int) < (0 : Int))) (Tree.need (List.length ps ≤ (1000 : Nat) ∧ List.any ps badP = false) (Tree.need ((↑(List.length (stS ps i)) : Int) < (2 : Int) ^ (62 : Nat)) (Tree.cond (stateS (ps, bs) (stS ps i) == (0 : Int)) (Tree.leaf (Sum.inl (losses, PUnit.unit, PUnit.unit, w, IntKind.wrap IntKind.i64 (st + (1 : Int)), IntKind.wrap IntKind.i64 (i + (1 : Int)), ps, bs, ps', bs', t0, t1, t2, PUnit.unit))) (Tree.leaf (Sum.inl (losses, PUnit.unit, PUnit.unit, w, st, IntKind.wrap IntKind.i64 (i + (1 : Int)), ps, bs, ps', bs', t0, t1, t2, PUnit.unit)))))) (Tree.leaf (Sum.inl (losses, PUnit.unit, PUnit.unit, w, st, IntKind.wrap IntKind.i64 (i + (1 : Int)), ps, bs, ps', bs', t0, t1, t2, PUnit.unit))))))) (Tree.cond (decide (losses = (↑(nat_lit 0) : Int))) (Tree.need ((0 : Int) ≤ (↑(nat_lit 0) : Int) ∧ (↑(nat_lit 0) : Int) < (↑(3 : Nat) : Int)) (Tree.need ((0 : Int) ≤ i ∧ i < (↑(List.length t0) : Int)) (Tree.cond (decide (List.getD t0 (Int.toNat i) (0 : Int) > w)) (Tree.leaf (Sum.inl (losses, PUnit.unit, PUnit.unit, List.getD t0 (Int.toNat i) (0 : Int), st, IntKind.wrap IntKind.i64 (i + (1 : Int)), ps, bs, ps', bs', t0, t1, t2, PUnit.unit))) (Tree.cond (decide (List.getD t0 (Int.toNat i) (0 : Int) < (0 : Int))) (Tree.need (List.length ps ≤ (1000 : Nat) ∧ List.any ps badP = false) (Tree.need ((↑(List.length (stS ps i)) : Int) < (2 : Int) ^ (62 : Nat)) (Tree.cond (stateS (ps, bs) (stS ps i) == (0 : Int)) (Tree.leaf (Sum.inl (losses, PUnit.unit, PUnit.unit, w, IntKind.wrap IntKind.i64 (st + (1 : Int)), IntKind.wrap IntKind.i64 (i + (1 : Int)), ps, bs, ps', bs', t0, t1, t2, PUnit.unit))) (Tree.leaf (Sum.inl (losses, PUnit.unit, PUnit.unit, w, st, IntKind.wrap IntKind.i64 (i + (1 : Int)), ps, bs, ps', bs', t0, t1, t2, PUnit.unit)))))) (Tree.leaf (Sum.inl (losses, PUnit.unit, PUnit.unit, w, st, IntKind.wrap IntKind.i64 (i + (1 : Int)), ps, bs, ps', bs', t0, t1, t2, PUnit.unit))))))) (Tree.fail (31 : Nat))))) (Tree.leaf (Sum.inr (Exit.exit (0 : Nat), Lay.st L_rrdy0_0 noU (w, st, PUnit.unit))))) := by kernel_rfl
def inv_rrdy0 : Int × Unit × Unit × Int × Int × Int × List Int × List (Int × (Int × (Int × V))) × List Int × List (Int × (Int × (Int × V))) × List Int × List Int × List Int × Unit → Prop := fun (losses, (), (), w, st, i, ps, bs, ps', bs', t0, t1, t2, ()) => 0 ≤ i ∧ i ≤ manyW ps 1 ∧ checkS (ps, bs) = 0 ∧ (0 ≤ losses ∧ losses ≤ 2) ∧ RowsK (t0, t1, t2) losses (prodL ps)
def O_rrdy0 : Int × Unit × Unit × Int × Int × Int × List Int × List (Int × (Int × (Int × V))) × List Int × List (Int × (Int × (Int × V))) × List Int × List Int × List Int × Unit → Tree (Exit × St) := fun (losses, (), (), w, st, i, ps, bs, ps', bs', t0, t1, t2, ()) => (.leaf (.exit 0, L_rrdy0_0.st noU (((rrdR (ps, bs) (getT (t0, t1, t2) losses) (manyW ps 1 - i).toNat i (w, st)).1), ((rrdR (ps, bs) (getT (t0, t1, t2) losses) (manyW ps 1 - i).toNat i (w, st)).2), ())))
def R_rrdy0 : LRun := runOf 66 L_rrdy0 (fun x => x) (inv_rrdy0) (O_rrdy0)
theorem K_rrdy0 : LoopOk P [] 66 none noU C_rrdy0 (R_rrdy0) := by
  refine loop_of hm (cx := [c_rmany.gc, c_rState.gc, c_rstate.gc, c_flagL]) [] (xl := X_rrdy0) (α := Int × Unit × Unit × Int × Int × Int × List Int × List (Int × (Int × (Int × V))) × List Int × List (Int × (Int × (Int × V))) × List Int × List Int × List Int × Unit) (fun x => x) (fun (losses, (), (), w, st, i, ps, bs, ps', bs', t0, t1, t2, ()) => (manyW ps 1 - i).toNat) (fun _ => rfl) (by kernel_rfl) (by kernel_rfl) ?_ (by kernel_rfl) trivial ?_
  · intro e S L' h
    unfold X_rrdy0 at h
    split at h <;> first | (cases h; done) | (cases h; kernel_rfl) | (rcases bif_some h with h | h <;> cases h <;> kernel_rfl)
  · rintro ⟨losses, ⟨⟩, ⟨⟩, w, st, i, ps, bs, ps', bs', t0, t1, t2, ⟨⟩⟩ hinv Q hQ
    refine hold_of_eq (B_rrdy0 losses w st i ps bs ps' bs' t0 t1 t2) ?_
    obtain ⟨h0, h1, h2, h3, h4⟩ := hinv
    obtain ⟨k1, k2, k3, k4, k5⟩ := checkS_ok h2
    dsimp only at k1 k2 k3
    have hrg : RgOk ps bs := ⟨k1, k2, k3⟩
    have hpr := hrg.pr
    have hmn := hrg.many
    have hsl := stS_len ps i
    refine ⟨by omega, fun c1 => ?_, fun c1 => ?_⟩
    · have d1 : i < manyW ps 1 := of_decide_eq_true c1
      rw [W_id (n := i + 1) (by omega) (by omega)]
      have inv' : 0 ≤ i + 1 ∧ i + 1 ≤ manyW ps 1 ∧ checkS (ps, bs) = 0 ∧ (0 ≤ losses ∧ losses ≤ 2) ∧ RowsK (t0, t1, t2) losses (prodL ps) := ⟨by omega, by omega, h2, h3, h4⟩
      have hm : (manyW ps 1 - (i + 1)).toNat < (manyW ps 1 - i).toNat := by omega
      refine ⟨fun c2 => ?_, fun c2 => ⟨fun c6 => ?_, fun c6 => ⟨fun c10 => ?_, fun c10 => ?_⟩⟩⟩
      · have d2 : losses = 2 := of_decide_eq_true c2
        subst d2
        have hlen' : (t2.length : Int) = prodL ps := h4 2 (by decide) (by decide)
        have hQ' : Q (.exit 0, L_rrdy0_0.st noU ((rrdR (ps, bs) t2 (manyW ps 1 - i).toNat i (w, st)).1, (rrdR (ps, bs) t2 (manyW ps 1 - i).toNat i (w, st)).2, ())) := hQ
        rw [show (manyW ps 1 - i).toNat = (manyW ps 1 - (i + 1)).toNat + 1 by omega, rrdR] at hQ'
        refine ⟨⟨by decide, by decide⟩, ⟨h0, by omega⟩, fun q3 => ?_, fun q3 => ⟨fun q4 => ⟨⟨by omega, k3⟩, by omega, fun q5 => ?_, fun q5 => ?_⟩, fun q4 => ?_⟩⟩
        · rw [if_pos (show t2.getD i.toNat 0 > w from of_decide_eq_true q3)] at hQ'
          exact ⟨⟨inv', hm⟩, hQ'⟩
        · have e5 : stateS (ps, bs) (stS ps i) = 0 := by simpa using q5
          rw [if_neg (show ¬ t2.getD i.toNat 0 > w from of_decide_eq_false q3), if_pos ⟨of_decide_eq_true q4, e5⟩] at hQ'
          exact ⟨⟨inv', hm⟩, hQ'⟩
        · have e5 : ¬ stateS (ps, bs) (stS ps i) = 0 := by simpa using q5
          rw [if_neg (show ¬ t2.getD i.toNat 0 > w from of_decide_eq_false q3), if_neg (fun q => e5 q.2)] at hQ'
          exact ⟨⟨inv', hm⟩, hQ'⟩
        · rw [if_neg (show ¬ t2.getD i.toNat 0 > w from of_decide_eq_false q3), if_neg (fun q => of_decide_eq_false q4 q.1)] at hQ'
          exact ⟨⟨inv', hm⟩, hQ'⟩
      · have d2 : losses = 1 := of_decide_eq_true c6
        subst d2
        have hlen' : (t1.length : Int) = prodL ps := h4 1 (by decide) (by decide)
        have hQ' : Q (.exit 0, L_rrdy0_0.st noU ((rrdR (ps, bs) t1 (manyW ps 1 - i).toNat i (w, st)).1, (rrdR (ps, bs) t1 (manyW ps 1 - i).toNat i (w, st)).2, ())) := hQ
        rw [show (manyW ps 1 - i).toNat = (manyW ps 1 - (i + 1)).toNat + 1 by omega, rrdR] at hQ'
        refine ⟨⟨by decide, by decide⟩, ⟨h0, by omega⟩, fun q3 => ?_, fun q3 => ⟨fun q4 => ⟨⟨by omega, k3⟩, by omega, fun q5 => ?_, fun q5 => ?_⟩, fun q4 => ?_⟩⟩
        · rw [if_pos (show t1.getD i.toNat 0 > w from of_decide_eq_true q3)] at hQ'
          exact ⟨⟨inv', hm⟩, hQ'⟩
        · have e5 : stateS (ps, bs) (stS ps i) = 0 := by simpa using q5
          rw [if_neg (show ¬ t1.getD i.toNat 0 > w from of_decide_eq_false q3), if_pos ⟨of_decide_eq_true q4, e5⟩] at hQ'
          exact ⟨⟨inv', hm⟩, hQ'⟩
        · have e5 : ¬ stateS (ps, bs) (stS ps i) = 0 := by simpa using q5
          rw [if_neg (show ¬ t1.getD i.toNat 0 > w from of_decide_eq_false q3), if_neg (fun q => e5 q.2)] at hQ'
          exact ⟨⟨inv', hm⟩, hQ'⟩
        · rw [if_neg (show ¬ t1.getD i.toNat 0 > w from of_decide_eq_false q3), if_neg (fun q => of_decide_eq_false q4 q.1)] at hQ'
          exact ⟨⟨inv', hm⟩, hQ'⟩
      · have d2 : losses = 0 := of_decide_eq_true c10
        subst d2
        have hlen' : (t0.length : Int) = prodL ps := h4 0 (by decide) (by decide)
        have hQ' : Q (.exit 0, L_rrdy0_0.st noU ((rrdR (ps, bs) t0 (manyW ps 1 - i).toNat i (w, st)).1, (rrdR (ps, bs) t0 (manyW ps 1 - i).toNat i (w, st)).2, ())) := hQ
        rw [show (manyW ps 1 - i).toNat = (manyW ps 1 - (i + 1)).toNat + 1 by omega, rrdR] at hQ'
        refine ⟨⟨by decide, by decide⟩, ⟨h0, by omega⟩, fun q3 => ?_, fun q3 => ⟨fun q4 => ⟨⟨by omega, k3⟩, by omega, fun q5 => ?_, fun q5 => ?_⟩, fun q4 => ?_⟩⟩
        · rw [if_pos (show t0.getD i.toNat 0 > w from of_decide_eq_true q3)] at hQ'
          exact ⟨⟨inv', hm⟩, hQ'⟩
        · have e5 : stateS (ps, bs) (stS ps i) = 0 := by simpa using q5
          rw [if_neg (show ¬ t0.getD i.toNat 0 > w from of_decide_eq_false q3), if_pos ⟨of_decide_eq_true q4, e5⟩] at hQ'
          exact ⟨⟨inv', hm⟩, hQ'⟩
        · have e5 : ¬ stateS (ps, bs) (stS ps i) = 0 := by simpa using q5
          rw [if_neg (show ¬ t0.getD i.toNat 0 > w from of_decide_eq_false q3), if_neg (fun q => e5 q.2)] at hQ'
          exact ⟨⟨inv', hm⟩, hQ'⟩
        · rw [if_neg (show ¬ t0.getD i.toNat 0 > w from of_decide_eq_false q3), if_neg (fun q => of_decide_eq_false q4 q.1)] at hQ'
          exact ⟨⟨inv', hm⟩, hQ'⟩
      · exfalso
        have e2 : ¬ losses = 2 := of_decide_eq_false c2
        have e4 : ¬ losses = 1 := of_decide_eq_false c6
        have e6 : ¬ losses = 0 := of_decide_eq_false c10
        omega
    · have d1 : ¬ i < manyW ps 1 := of_decide_eq_false c1
      unfold O_rrdy0 at hQ
      dsimp only at hQ
      rw [show (manyW ps 1 - i).toNat = 0 by omega] at hQ
      exact hQ
theorem T_rReady (s0_0 : List Int) (s0_1 : List (Int × (Int × (Int × V)))) (s1 : List (Int × Int)) (losses : Int) : fnTree (P := P) [c_rCheckGoal.gc, c_made.gc, c_flagL] (lpOf [(0, R_rrdy0)]) Try.f49 (encL 0 [.agg (.pair tIs (.sl (.pair tI (.pair tI (.pair tI tV))))), .val (.sl tPart), .val tI] ((s0_0, s0_1), s1, losses, ())) =
  Tree.cond (goalS (s0_0, s0_1) s1 != (0 : Int)) (Tree.leaf (SV.tup [SV.int IntKind.i64 (0 : Int), SV.int IntKind.i64 (0 : Int), SV.int IntKind.i64 (goalS (s0_0, s0_1) s1)])) (Tree.cond (decide (losses < (0 : Int))) (Tree.leaf (SV.tup [SV.int IntKind.i64 (0 : Int), SV.int IntKind.i64 (0 : Int), SV.int IntKind.i64 (2 : Int)])) (Tree.cond (decide (losses > (2 : Int))) (Tree.leaf (SV.tup [SV.int IntKind.i64 (0 : Int), SV.int IntKind.i64 (0 : Int), SV.int IntKind.i64 (2 : Int)])) (Tree.need (checkS (s0_0, s0_1) = (0 : Int) ∧ List.length s1 = List.length s0_0 ∧ (0 : Int) ≤ losses ∧ losses ≤ (2 : Int)) (Tree.need (inv_rrdy0 (losses, (), (), (0 : Int), (0 : Int), (0 : Int), s0_0, s0_1, s0_0, s0_1, (madeT s0_0 s0_1 s1 losses).fst, (madeT s0_0 s0_1 s1 losses).snd.fst, (madeT s0_0 s0_1 s1 losses).snd.snd, ())) (Tree.leaf (SV.tup [SV.int IntKind.i64 (rrdR (s0_0, s0_1) (getT (madeT s0_0 s0_1 s1 losses) losses) (Int.toNat (manyW s0_0 (1 : Int) - (0 : Int))) (0 : Int) ((0 : Int), (0 : Int))).fst, SV.int IntKind.i64 (rrdR (s0_0, s0_1) (getT (madeT s0_0 s0_1 s1 losses) losses) (Int.toNat (manyW s0_0 (1 : Int) - (0 : Int))) (0 : Int) ((0 : Int), (0 : Int))).snd, SV.int IntKind.i64 (0 : Int)])))))) := by kernel_rfl
def c_rReady : PC P := PC.of (α := (List Int × List (Int × (Int × (Int × V)))) × List (Int × Int) × Int × Unit) 49 [.agg (.pair tIs (.sl (.pair tI (.pair tI (.pair tI tV))))), .val (.sl tPart), .val tI] (fun x => x) (fun x => x) (fun _ => rfl)
  (fun _ => none)
  (fun x => .tup [.int .i64 (readyS x.1 x.2.1 x.2.2.1).1, .int .i64 (readyS x.1 x.2.1 x.2.2.1).2.1, .int .i64 (readyS x.1 x.2.1 x.2.2.1).2.2]) (by kernel_rfl) (by
    rintro ⟨⟨s0_0, s0_1⟩, s1, losses, ⟨⟩⟩ hp
    refine fn_of hm (by kernel_rfl) (by kernel_rfl) (T_rReady s0_0 s0_1 s1 losses) ⟨K_rrdy0, trivial⟩ ?_
    try dsimp only at hp
    try dsimp only
    have fin : ∀ k : Int × Int × Int, readyS (s0_0, s0_1) s1 losses = k → SV.tup [.int .i64 k.1, .int .i64 k.2.1, .int .i64 k.2.2] = SV.tup [.int .i64 (readyS (s0_0, s0_1) s1 losses).1, .int .i64 (readyS (s0_0, s0_1) s1 losses).2.1, .int .i64 (readyS (s0_0, s0_1) s1 losses).2.2] := fun k h => by rw [h]
    refine ⟨fun c1 => ?_, fun c1 => ⟨fun c2 => ?_, fun c2 => ⟨fun c3 => ?_, fun c3 => ?_⟩⟩⟩
    · have d1 : goalS (s0_0, s0_1) s1 ≠ 0 := by simpa using c1
      exact fin (0, 0, goalS (s0_0, s0_1) s1) (by unfold readyS; rw [if_pos d1])
    all_goals
      have d1 : goalS (s0_0, s0_1) s1 = 0 := by simpa using c1
    · have d2 := of_decide_eq_true c2
      have d3 : wi losses 0 2 = false := by unfold wi; rw [decide_eq_false (show ¬ 0 ≤ losses by omega), Bool.false_and]
      exact fin (0, 0, 2) (by unfold readyS; rw [if_neg (by rw [d1]; simp), if_pos d3])
    · have d2 := of_decide_eq_true c3
      have d3 : wi losses 0 2 = false := by unfold wi; rw [decide_eq_false (show ¬ losses ≤ 2 by omega), Bool.and_false]
      exact fin (0, 0, 2) (by unfold readyS; rw [if_neg (by rw [d1]; simp), if_pos d3])
    · have d2 := of_decide_eq_false c2
      have d3 := of_decide_eq_false c3
      obtain ⟨g1, g2, g3⟩ := goalS_ok d1
      dsimp only at g1 g2 g3
      obtain ⟨k1, k2, k3, k4, k5⟩ := checkS_ok g1
      dsimp only at k1 k2 k3
      have hrg : RgOk s0_0 s0_1 := ⟨k1, k2, k3⟩
      have hpr := hrg.pr
      have hmn := hrg.many
      have hw : wi losses 0 2 = true := by unfold wi; rw [decide_eq_true (show 0 ≤ losses by omega), decide_eq_true (show losses ≤ 2 by omega)]; rfl
      refine ⟨⟨g1, g2, by omega, by omega⟩, ⟨by decide, by omega, g1, by omega, madeT_rows hrg (by omega) (by omega)⟩, ?_⟩
      have e := rrdR_eq (r := (s0_0, s0_1)) (g := s1) (l := losses.toNat) g1 (by omega) (manyW s0_0 1).toNat 0 (0, 0) (by omega) (by dsimp only; omega) (by decide)
      rw [Int.toNat_of_nonneg (by omega)] at e
      dsimp only at e
      rw [Int.sub_zero]
      have e' : rrdR (s0_0, s0_1) (getT ((madeT s0_0 s0_1 s1 losses).1, (madeT s0_0 s0_1 s1 losses).2.1, (madeT s0_0 s0_1 s1 losses).2.2) losses) (manyW s0_0 1).toNat 0 (0, 0) = rdyR (cntSf s0_0 s0_1 s1) (cntTk s0_0 s0_1 s1 losses) losses (manyW s0_0 1).toNat 0 (0, 0) := e
      refine fin ((rrdR (s0_0, s0_1) (getT ((madeT s0_0 s0_1 s1 losses).1, (madeT s0_0 s0_1 s1 losses).2.1, (madeT s0_0 s0_1 s1 losses).2.2) losses) (manyW s0_0 1).toNat 0 (0, 0)).1, (rrdR (s0_0, s0_1) (getT ((madeT s0_0 s0_1 s1 losses).1, (madeT s0_0 s0_1 s1 losses).2.1, (madeT s0_0 s0_1 s1 losses).2.2) losses) (manyW s0_0 1).toNat 0 (0, 0)).2, 0) ?_
      rw [e']
      unfold readyS
      rw [if_neg (by rw [d1]; simp), if_neg (by rw [hw]; decide)])
end
end Go.MR
