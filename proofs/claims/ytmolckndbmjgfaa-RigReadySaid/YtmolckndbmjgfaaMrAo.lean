/- The reference's table of ticks: made. -/
import Derived.Test.YtmolckndbmjgfaaMrAn
namespace Go.MR
open Go Go.Sx Go.Proofs
set_option linter.unusedVariables false
set_option linter.unusedSimpArgs false
noncomputable section
theorem setT_get (T : Rows3) (k : Int) : setT T k (getT T k) = T := by
  obtain ⟨a, b, c⟩ := T
  unfold setT getT
  split
  · rfl
  · split <;> rfl
theorem movesS_pre {ps : List Int} {bs : List Ban} {s : List Int} (hc : checkS (ps, bs) = 0) {m : List Int} (hm : m ∈ movesS (ps, bs) s) : OkR ps s m ∧ m ≠ [] := by
  by_cases h : stateS (ps, bs) s = 0
  · obtain ⟨k1, k2, k3, k4, k5⟩ := checkS_ok hc
    obtain ⟨a1, a2, a3⟩ := stateS_in (r := (ps, bs)) (.inl h)
    obtain ⟨h1, h2⟩ := (movesS_mem h).1 hm
    have hl := allM_len h1
    unfold okM at h2
    rw [Bool.and_eq_true] at h2
    dsimp only at k1 k2 k3 a2 a3 h2
    refine ⟨⟨k1, k2, k3, a2, by omega, a3, waysS_ok h2.1⟩, ?_⟩
    rintro rfl
    simp at hl
    omega
  · unfold movesS at hm
    rw [if_pos h] at hm
    cases hm
theorem movesS_few {ps : List Int} {bs : List Ban} {s : List Int} (hc : checkS (ps, bs) = 0) : ((movesS (ps, bs) s).length : Int) ≤ 1000 := by
  by_cases h : stateS (ps, bs) s = 0
  · obtain ⟨k1, k2, k3, k4, k5⟩ := checkS_ok hc
    obtain ⟨a1, a2, a3⟩ := stateS_in (r := (ps, bs)) (.inl h)
    dsimp only at k1 k2 a2
    unfold movesS
    rw [if_neg (by rw [h]; simp)]
    have h1 := List.length_filter_le (okM (ps, bs).1 (ps, bs).2 s) (allM s.length)
    rw [allM_card] at h1
    have h2 : 3 ^ s.length ≤ 81 := by
      have : s.length = 2 ∨ s.length = 3 ∨ s.length = 4 := by omega
      rcases this with e | e | e <;> rw [e] <;> decide
    omega
  · unfold movesS
    rw [if_pos h]; decide
structure TabI (ps : List Int) (bs : List Ban) (ps' : List Int) (bs' : List Ban) (g : List (Int × Int)) (N : Int) (mv : List (List (List Int))) : Prop where
  e1 : ps' = ps
  e2 : bs' = bs
  ck : checkS (ps, bs) = 0
  gl : g.length = ps.length
  eN : N = prodL ps
  ml : (mv.length : Int) = N
  mv : ∀ n : Int, 0 ≤ n → n < N → mv.getD n.toNat [] = movesS (ps, bs) (stS ps n)
theorem TabI.rg {ps : List Int} {bs : List Ban} {ps' : List Int} {bs' : List Ban} {g : List (Int × Int)} {N : Int} {mv : List (List (List Int))} (h : TabI ps bs ps' bs' g N mv) : RgOk ps bs := by
  obtain ⟨k1, k2, k3, k4, k5⟩ := checkS_ok h.ck
  exact ⟨k1, k2, k3⟩
theorem TabI.rng {ps : List Int} {bs : List Ban} {ps' : List Int} {bs' : List Ban} {g : List (Int × Int)} {N : Int} {mv : List (List (List Int))} (h : TabI ps bs ps' bs' g N mv) : 1 ≤ N ∧ N ≤ 4096 := by
  rw [h.eN]; exact h.rg.pr
def RowsK (T : Rows3) (k N : Int) : Prop := ∀ l : Int, 0 ≤ l → l ≤ k → ((getT T l).length : Int) = N
theorem rows_set {T : Rows3} {k N : Int} {v : List Int} (hk : 0 ≤ k ∧ k ≤ 2) (h : RowsK T (k - 1) N) (hv : (v.length : Int) = N) : RowsK (setT T k v) k N := by
  intro l h0 h1
  rw [getT_set hk ⟨h0, by omega⟩]
  by_cases e : l = k
  · rw [if_pos e]; exact hv
  · rw [if_neg e]; exact h l h0 (by omega)
theorem RowsK.le {T : Rows3} {k j N : Int} (h : RowsK T k N) (hj : j ≤ k) : RowsK T j N := fun l h0 h1 => h l h0 (by omega)
theorem putT_rows {T : Rows3} {k N d : Int} {f : List Int} (hk : 0 ≤ k ∧ k ≤ 2) (h : RowsK T k N) : RowsK (setT T k (putT d f (getT T k))) k N :=
  rows_set hk (h.le (by omega)) (by rw [putT_len]; exact h k hk.1 (Int.le_refl _))
theorem layT_rows {ps : List Int} {mv : List (List (List Int))} {N k : Int} (hk : 0 ≤ k ∧ k ≤ 2) : ∀ (j : Nat) (d most : Int) (T : Rows3), RowsK T k N → RowsK (layT ps mv N k j d most T).2 k N
  | 0, _, _, _, h => h
  | j + 1, d, most, T, h => by
    rw [layT]
    split
    · exact putT_rows hk h
    · exact layT_rows hk j _ _ _ (putT_rows hk h)
theorem layT_most {ps : List Int} {mv : List (List (List Int))} {N k : Int} : ∀ (j : Nat) (d most : Int) (T : Rows3), 0 ≤ d → d + j ≤ 65 → 0 ≤ most → most ≤ 64 → 0 ≤ (layT ps mv N k j d most T).1 ∧ (layT ps mv N k j d most T).1 ≤ 64
  | 0, _, _, _, _, _, h0, h1 => ⟨h0, h1⟩
  | j + 1, d, most, T, hd, hj, h0, h1 => by
    rw [layT]
    split
    · exact ⟨h0, h1⟩
    · refine layT_most j _ _ _ (by omega) (by omega) ?_ ?_
      · split
        · unfold maxI; split <;> omega
        · exact h0
      · split
        · unfold maxI; split <;> omega
        · exact h1
theorem fndT_rng {ps : List Int} {mv : List (List (List Int))} {T : Rows3} {k d : Int} {N : Int} (h : 0 ≤ N) : ∀ x ∈ fndT ps mv T k d N.toNat 0 [], 0 ≤ x ∧ x < N := fun x hx => by
  rcases fndT_mem _ _ _ _ |>.1 hx with q | q
  · cases q
  · omega
def L_md0 : Lay := { slots := [(1, .val (.sl tPart)), (2, .val tI), (3, .ptr 4155 0), (7, .ptr 21155 0), (8, .val tI), (9, .row 44 (.sl tIs)), (10, .val tI)], boxes := [(4155, [.val tIs, .val (.sl (.pair tI (.pair tI (.pair tI tV))))]), (21155, [.val tIs, .val (.sl (.pair tI (.pair tI (.pair tI tV)))), .row 3 tI, .row 3 tI, .row 3 tI])] }
def L_md0_0 : Lay := { slots := [(1, .val (.sl tPart)), (2, .val tI), (3, .ptr 4155 0), (7, .ptr 21155 0), (8, .val tI), (9, .row 44 (.sl tIs))], boxes := [(4155, [.val tIs, .val (.sl (.pair tI (.pair tI (.pair tI tV))))]), (21155, [.val tIs, .val (.sl (.pair tI (.pair tI (.pair tI tV)))), .row 3 tI, .row 3 tI, .row 3 tI])] }
def X_md0 : Exit → St → Option Lay
  | .exit 0, _ => some L_md0_0
  | _, _ => none
abbrev C_md0 : Code := loopC (bodyOf Try.f88) 0
theorem B_md0 (g : List (Int × Int)) (losses N : Int) (mv : List (List (List Int))) (i : Int) (ps : List Int) (bs : List (Int × (Int × (Int × V)))) (ps' : List Int) (bs' : List (Int × (Int × (Int × V)))) (t0 t1 t2 : List Int) : loopBodyA (P := P) [c_rstate.gc, c_rMoves.gc] (lpOf []) [] 155 noU (inner C_md0) L_md0 X_md0 (α := List (Int × Int) × Int × Unit × Unit × Int × List (List (List Int)) × Int × List Int × List (Int × (Int × (Int × V))) × List Int × List (Int × (Int × (Int × V))) × List Int × List Int × List Int × Unit) (fun x => x) (fun x => x) (g, losses, (), (), N, mv, i, ps, bs, ps', bs', t0, t1, t2, ()) =
  Tree.cond (decide (i < N)) (Tree.need (List.length ps ≤ (1000 : Nat) ∧ List.any ps badP = false) (Tree.need ((↑(List.length (stS ps i)) : Int) < (2 : Int) ^ (62 : Nat)) (Tree.need ((0 : Int) ≤ i ∧ i < (↑(List.length mv) : Int)) (Tree.need (Int.toNat i < List.length mv) (Tree.leaf (Sum.inl (g, losses, PUnit.unit, PUnit.unit, N, List.set mv (Int.toNat i) (movesS (ps, bs) (stS ps i)), IntKind.wrap IntKind.i64 (i + (1 : Int)), ps, bs, ps', bs', t0, t1, t2, PUnit.unit))))))) (Tree.leaf (Sum.inr (Exit.exit (0 : Nat), Lay.st L_md0_0 noU (g, losses, PUnit.unit, PUnit.unit, N, mv, ps, bs, ps', bs', t0, t1, t2, PUnit.unit)))) := by kernel_rfl
def inv_md0 : List (Int × Int) × Int × Unit × Unit × Int × List (List (List Int)) × Int × List Int × List (Int × (Int × (Int × V))) × List Int × List (Int × (Int × (Int × V))) × List Int × List Int × List Int × Unit → Prop := fun (g, losses, (), (), N, mv, i, ps, bs, ps', bs', t0, t1, t2, ()) => 0 ≤ i ∧ i ≤ N ∧ N = prodL ps ∧ checkS (ps, bs) = 0 ∧ (mv.length : Int) = N
def O_md0 : List (Int × Int) × Int × Unit × Unit × Int × List (List (List Int)) × Int × List Int × List (Int × (Int × (Int × V))) × List Int × List (Int × (Int × (Int × V))) × List Int × List Int × List Int × Unit → Tree (Exit × St) := fun (g, losses, (), (), N, mv, i, ps, bs, ps', bs', t0, t1, t2, ()) => (.leaf (.exit 0, L_md0_0.st noU (g, losses, (), (), N, (mvsT ps bs (N - i).toNat i mv), ps, bs, ps', bs', t0, t1, t2, ())))
def R_md0 : LRun := runOf 155 L_md0 (fun x => x) (inv_md0) (O_md0)
theorem K_md0 : LoopOk P [] 155 none noU C_md0 (R_md0) := by
  refine loop_of hm (cx := [c_rstate.gc, c_rMoves.gc]) [] (xl := X_md0) (α := List (Int × Int) × Int × Unit × Unit × Int × List (List (List Int)) × Int × List Int × List (Int × (Int × (Int × V))) × List Int × List (Int × (Int × (Int × V))) × List Int × List Int × List Int × Unit) (fun x => x) (fun (g, losses, (), (), N, mv, i, ps, bs, ps', bs', t0, t1, t2, ()) => (N - i).toNat) (fun _ => rfl) (by kernel_rfl) (by kernel_rfl) ?_ (by kernel_rfl) trivial ?_
  · intro e S L' h
    unfold X_md0 at h
    split at h <;> first | (cases h; done) | (cases h; kernel_rfl) | (rcases bif_some h with h | h <;> cases h <;> kernel_rfl)
  · rintro ⟨g, losses, ⟨⟩, ⟨⟩, N, mv, i, ps, bs, ps', bs', t0, t1, t2, ⟨⟩⟩ hinv Q hQ
    refine hold_of_eq (B_md0 g losses N mv i ps bs ps' bs' t0 t1 t2) ?_
    obtain ⟨h0, h1, h2, h3, h4⟩ := hinv
    obtain ⟨k1, k2, k3, k4, k5⟩ := checkS_ok h3
    dsimp only at k1 k2 k3
    have hp := (RgOk.mk k1 k2 k3 : RgOk ps bs).pr
    have hsl := stS_len ps i
    have hQ' : Q (.exit 0, L_md0_0.st noU (g, losses, (), (), N, mvsT ps bs (N - i).toNat i mv, ps, bs, ps', bs', t0, t1, t2, ())) := hQ
    refine ⟨fun c1 => ?_, fun c1 => ?_⟩
    · have d1 : i < N := of_decide_eq_true c1
      rw [W_id (n := i + 1) (by omega) (by omega)]
      rw [show (N - i).toNat = (N - (i + 1)).toNat + 1 by omega, mvsT] at hQ'
      exact ⟨⟨by omega, k3⟩, by omega, ⟨h0, by omega⟩, by omega, ⟨⟨by omega, by omega, h2, h3, by rw [List.length_set]; exact h4⟩, by show (N - (i + 1)).toNat < (N - i).toNat; omega⟩, hQ'⟩
    · have d1 : ¬ i < N := of_decide_eq_false c1
      rw [show (N - i).toNat = 0 by omega] at hQ'
      exact hQ'
def L_md4 : Lay := { slots := [(1, .val (.sl tPart)), (2, .val tI), (3, .ptr 4155 0), (7, .ptr 21155 0), (8, .val tI), (9, .row 44 (.sl tIs)), (11, .val tI), (12, .val tI), (13, .val tI)], boxes := [(4155, [.val tIs, .val (.sl (.pair tI (.pair tI (.pair tI tV))))]), (21155, [.val tIs, .val (.sl (.pair tI (.pair tI (.pair tI tV)))), .row 3 tI, .row 3 tI, .row 3 tI])] }
def L_md4_0 : Lay := { slots := [(1, .val (.sl tPart)), (2, .val tI), (3, .ptr 4155 0), (7, .ptr 21155 0), (8, .val tI), (9, .row 44 (.sl tIs)), (11, .val tI), (12, .val tI)], boxes := [(4155, [.val tIs, .val (.sl (.pair tI (.pair tI (.pair tI tV))))]), (21155, [.val tIs, .val (.sl (.pair tI (.pair tI (.pair tI tV)))), .row 3 tI, .row 3 tI, .row 3 tI])] }
def X_md4 : Exit → St → Option Lay
  | .exit 4, _ => some L_md4_0
  | _, _ => none
abbrev C_md4 : Code := loopC (inner (loopC (bodyOf Try.f88) 2)) 4
theorem B_md4 (g : List (Int × Int)) (losses N : Int) (mv : List (List (List Int))) (most k i : Int) (ps : List Int) (bs : List (Int × (Int × (Int × V)))) (ps' : List Int) (bs' : List (Int × (Int × (Int × V)))) (t0 t1 t2 : List Int) : loopBodyA (P := P) [c_rstate.gc, c_rin.gc, c_flagL] (lpOf []) [] 155 noU (inner C_md4) L_md4 X_md4 (α := List (Int × Int) × Int × Unit × Unit × Int × List (List (List Int)) × Int × Int × Int × List Int × List (Int × (Int × (Int × V))) × List Int × List (Int × (Int × (Int × V))) × List Int × List Int × List Int × Unit) (fun x => x) (fun x => x) (g, losses, (), (), N, mv, most, k, i, ps, bs, ps', bs', t0, t1, t2, ()) =
  Tree.cond (decide (i < N)) (Tree.cond (decide (k = (↑(nat_lit 2) : Int))) (Tree.need ((0 : Int) ≤ (↑(nat_lit 2) : Int) ∧ (↑(nat_lit 2) : Int) < (↑(3 : Nat) : Int)) (Tree.need ((0 : Int) ≤ i ∧ i < (↑(List.length t2) : Int)) (Tree.need (Int.toNat i < List.length t2) (Tree.need ((0 : Int) ≤ i ∧ i < (↑(List.length mv) : Int)) (Tree.need (Int.toNat i < List.length mv) (Tree.cond (decide ((↑(List.length (List.getD mv (Int.toNat i) [])) : Int) > (0 : Int))) (Tree.need (List.length ps ≤ (1000 : Nat) ∧ List.any ps badP = false) (Tree.need (List.length (stS ps i) ≤ (1000 : Nat) ∧ List.length (stS ps i) ≤ List.length g) (Tree.cond (inG (stS ps i) g) (Tree.cond (decide (k = (↑(nat_lit 2) : Int))) (Tree.need ((0 : Int) ≤ (↑(nat_lit 2) : Int) ∧ (↑(nat_lit 2) : Int) < (↑(3 : Nat) : Int)) (Tree.need ((0 : Int) ≤ i ∧ i < (↑(List.length (List.set t2 (Int.toNat i) (-1 : Int))) : Int)) (Tree.need (Int.toNat i < List.length (List.set t2 (Int.toNat i) (-1 : Int))) (Tree.leaf (Sum.inl (g, losses, PUnit.unit, PUnit.unit, N, mv, most, k, IntKind.wrap IntKind.i64 (i + (1 : Int)), ps, bs, ps', bs', t0, t1, List.set (List.set t2 (Int.toNat i) (-1 : Int)) (Int.toNat i) (0 : Int), PUnit.unit)))))) (Tree.cond (decide (k = (↑(nat_lit 1) : Int))) (Tree.need ((0 : Int) ≤ (↑(nat_lit 1) : Int) ∧ (↑(nat_lit 1) : Int) < (↑(3 : Nat) : Int)) (Tree.need ((0 : Int) ≤ i ∧ i < (↑(List.length t1) : Int)) (Tree.need (Int.toNat i < List.length t1) (Tree.leaf (Sum.inl (g, losses, PUnit.unit, PUnit.unit, N, mv, most, k, IntKind.wrap IntKind.i64 (i + (1 : Int)), ps, bs, ps', bs', t0, List.set t1 (Int.toNat i) (0 : Int), List.set t2 (Int.toNat i) (-1 : Int), PUnit.unit)))))) (Tree.cond (decide (k = (↑(nat_lit 0) : Int))) (Tree.need ((0 : Int) ≤ (↑(nat_lit 0) : Int) ∧ (↑(nat_lit 0) : Int) < (↑(3 : Nat) : Int)) (Tree.need ((0 : Int) ≤ i ∧ i < (↑(List.length t0) : Int)) (Tree.need (Int.toNat i < List.length t0) (Tree.leaf (Sum.inl (g, losses, PUnit.unit, PUnit.unit, N, mv, most, k, IntKind.wrap IntKind.i64 (i + (1 : Int)), ps, bs, ps', bs', List.set t0 (Int.toNat i) (0 : Int), t1, List.set t2 (Int.toNat i) (-1 : Int), PUnit.unit)))))) (Tree.fail (31 : Nat))))) (Tree.leaf (Sum.inl (g, losses, PUnit.unit, PUnit.unit, N, mv, most, k, IntKind.wrap IntKind.i64 (i + (1 : Int)), ps, bs, ps', bs', t0, t1, List.set t2 (Int.toNat i) (-1 : Int), PUnit.unit)))))) (Tree.leaf (Sum.inl (g, losses, PUnit.unit, PUnit.unit, N, mv, most, k, IntKind.wrap IntKind.i64 (i + (1 : Int)), ps, bs, ps', bs', t0, t1, List.set t2 (Int.toNat i) (-1 : Int), PUnit.unit))))))))) (Tree.cond (decide (k = (↑(nat_lit 1) : Int))) (Tree.need ((0 : Int) ≤ (↑(nat_lit 1) : Int) ∧ (↑(nat_lit 1) : Int) < (↑(3 : Nat) : Int)) (Tree.need ((0 : Int) ≤ i ∧ i < (↑(List.length t1) : Int)) (Tree.need (Int.toNat i < List.length t1) (Tree.need ((0 : Int) ≤ i ∧ i < (↑(List.length mv) : Int)) (Tree.need (Int.toNat i < List.length mv) (Tree.cond (decide ((↑(List.length (List.getD mv (Int.toNat i) [])) : Int) > (0 : Int))) (Tree.need (List.length ps ≤ (1000 : Nat) ∧ List.any ps badP = false) (Tree.need (List.length (stS ps i) ≤ (1000 : Nat) ∧ List.length (stS ps i) ≤ List.length g) (Tree.cond (inG (stS ps i) g) (Tree.cond (decide (k = (↑(nat_lit 2) : Int))) (Tree.need ((0 : Int) ≤ (↑(nat_lit 2) : Int) ∧ (↑(nat_lit 2) : Int) < (↑(3 : Nat) : Int)) (Tree.need ((0 : Int) ≤ i ∧ i < (↑(List.length t2) : Int)) (Tree.need (Int.toNat i < List.length t2) (Tree.leaf (Sum.inl (g, losses, PUnit.unit, PUnit.unit, N, mv, most, k, IntKind.wrap IntKind.i64 (i + (1 : Int)), ps, bs, ps', bs', t0, List.set t1 (Int.toNat i) (-1 : Int), List.set t2 (Int.toNat i) (0 : Int), PUnit.unit)))))) (Tree.cond (decide (k = (↑(nat_lit 1) : Int))) (Tree.need ((0 : Int) ≤ (↑(nat_lit 1) : Int) ∧ (↑(nat_lit 1) : Int) < (↑(3 : Nat) : Int)) (Tree.need ((0 : Int) ≤ i ∧ i < (↑(List.length (List.set t1 (Int.toNat i) (-1 : Int))) : Int)) (Tree.need (Int.toNat i < List.length (List.set t1 (Int.toNat i) (-1 : Int))) (Tree.leaf (Sum.inl (g, losses, PUnit.unit, PUnit.unit, N, mv, most, k, IntKind.wrap IntKind.i64 (i + (1 : Int)), ps, bs, ps', bs', t0, List.set (List.set t1 (Int.toNat i) (-1 : Int)) (Int.toNat i) (0 : Int), t2, PUnit.unit)))))) (Tree.cond (decide (k = (↑(nat_lit 0) : Int))) (Tree.need ((0 : Int) ≤ (↑(nat_lit 0) : Int) ∧ (↑(nat_lit 0) : Int) < (↑(3 : Nat) : Int)) (Tree.need ((0 : Int) ≤ i ∧ i < (↑(List.length t0) : Int)) (Tree.need (Int.toNat i < List.length t0) (Tree.leaf (Sum.inl (g, losses, PUnit.unit, PUnit.unit, N, mv, most, k, IntKind.wrap IntKind.i64 (i + (1 : Int)), ps, bs, ps', bs', List.set t0 (Int.toNat i) (0 : Int), List.set t1 (Int.toNat i) (-1 : Int), t2, PUnit.unit)))))) (Tree.fail (31 : Nat))))) (Tree.leaf (Sum.inl (g, losses, PUnit.unit, PUnit.unit, N, mv, most, k, IntKind.wrap IntKind.i64 (i + (1 : Int)), ps, bs, ps', bs', t0, List.set t1 (Int.toNat i) (-1 : Int), t2, PUnit.unit)))))) (Tree.leaf (Sum.inl (g, losses, PUnit.unit, PUnit.unit, N, mv, most, k, IntKind.wrap IntKind.i64 (i + (1 : Int)), ps, bs, ps', bs', t0, List.set t1 (Int.toNat i) (-1 : Int), t2, PUnit.unit))))))))) (Tree.cond (decide (k = (↑(nat_lit 0) : Int))) (Tree.need ((0 : Int) ≤ (↑(nat_lit 0) : Int) ∧ (↑(nat_lit 0) : Int) < (↑(3 : Nat) : Int)) (Tree.need ((0 : Int) ≤ i ∧ i < (↑(List.length t0) : Int)) (Tree.need (Int.toNat i < List.length t0) (Tree.need ((0 : Int) ≤ i ∧ i < (↑(List.length mv) : Int)) (Tree.need (Int.toNat i < List.length mv) (Tree.cond (decide ((↑(List.length (List.getD mv (Int.toNat i) [])) : Int) > (0 : Int))) (Tree.need (List.length ps ≤ (1000 : Nat) ∧ List.any ps badP = false) (Tree.need (List.length (stS ps i) ≤ (1000 : Nat) ∧ List.length (stS ps i) ≤ List.length g) (Tree.cond (inG (stS ps i) g) (Tree.cond (decide (k = (↑(nat_lit 2) : Int))) (Tree.need ((0 : Int) ≤ (↑(nat_lit 2) : Int) ∧ (↑(nat_lit 2) : Int) < (↑(3 : Nat) : Int)) (Tree.need ((0 : Int) ≤ i ∧ i < (↑(List.length t2) : Int)) (Tree.need (Int.toNat i < List.length t2) (Tree.leaf (Sum.inl (g, losses, PUnit.unit, PUnit.unit, N, mv, most, k, IntKind.wrap IntKind.i64 (i + (1 : Int)), ps, bs, ps', bs', List.set t0 (Int.toNat i) (-1 : Int), t1, List.set t2 (Int.toNat i) (0 : Int), PUnit.unit)))))) (Tree.cond (decide (k = (↑(nat_lit 1) : Int))) (Tree.need ((0 : Int) ≤ (↑(nat_lit 1) : Int) ∧ (↑(nat_lit 1) : Int) < (↑(3 : Nat) : Int)) (Tree.need ((0 : Int) ≤ i ∧ i < (↑(List.length t1) : Int)) (Tree.need (Int.toNat i < List.length t1) (Tree.leaf (Sum.inl (g, losses, PUnit.unit, PUnit.unit, N, mv, most, k, IntKind.wrap IntKind.i64 (i + (1 : Int)), ps, bs, ps', bs', List.set t0 (Int.toNat i) (-1 : Int), List.set t1 (Int.toNat i) (0 : Int), t2, PUnit.unit)))))) (Tree.cond (decide (k = (↑(nat_lit 0) : Int))) (Tree.need ((0 : Int) ≤ (↑(nat_lit 0) : Int) ∧ (↑(nat_lit 0) : Int) < (↑(3 : Nat) : Int)) (Tree.need ((0 : Int) ≤ i ∧ i < (↑(List.length (List.set t0 (Int.toNat i) (-1 : Int))) : Int)) (Tree.need (Int.toNat i < List.length (List.set t0 (Int.toNat i) (-1 : Int))) (Tree.leaf (Sum.inl (g, losses, PUnit.unit, PUnit.unit, N, mv, most, k, IntKind.wrap IntKind.i64 (i + (1 : Int)), ps, bs, ps', bs', List.set (List.set t0 (Int.toNat i) (-1 : Int)) (Int.toNat i) (0 : Int), t1, t2, PUnit.unit)))))) (Tree.fail (31 : Nat))))) (Tree.leaf (Sum.inl (g, losses, PUnit.unit, PUnit.unit, N, mv, most, k, IntKind.wrap IntKind.i64 (i + (1 : Int)), ps, bs, ps', bs', List.set t0 (Int.toNat i) (-1 : Int), t1, t2, PUnit.unit)))))) (Tree.leaf (Sum.inl (g, losses, PUnit.unit, PUnit.unit, N, mv, most, k, IntKind.wrap IntKind.i64 (i + (1 : Int)), ps, bs, ps', bs', List.set t0 (Int.toNat i) (-1 : Int), t1, t2, PUnit.unit))))))))) (Tree.fail (31 : Nat))))) (Tree.leaf (Sum.inr (Exit.exit (4 : Nat), Lay.st L_md4_0 noU (g, losses, PUnit.unit, PUnit.unit, N, mv, most, k, ps, bs, ps', bs', t0, t1, t2, PUnit.unit)))) := by kernel_rfl
def inv_md4 : List (Int × Int) × Int × Unit × Unit × Int × List (List (List Int)) × Int × Int × Int × List Int × List (Int × (Int × (Int × V))) × List Int × List (Int × (Int × (Int × V))) × List Int × List Int × List Int × Unit → Prop := fun (g, losses, (), (), N, mv, most, k, i, ps, bs, ps', bs', t0, t1, t2, ()) => 0 ≤ i ∧ i ≤ N ∧ TabI ps bs ps' bs' g N mv ∧ (0 ≤ k ∧ k ≤ 2) ∧ ((getT (t0, t1, t2) k).length : Int) = N
def O_md4 : List (Int × Int) × Int × Unit × Unit × Int × List (List (List Int)) × Int × Int × Int × List Int × List (Int × (Int × (Int × V))) × List Int × List (Int × (Int × (Int × V))) × List Int × List Int × List Int × Unit → Tree (Exit × St) := fun (g, losses, (), (), N, mv, most, k, i, ps, bs, ps', bs', t0, t1, t2, ()) => (.leaf (.exit 4, L_md4_0.st noU (g, losses, (), (), N, mv, most, k, ps, bs, ps', bs', ((setT (t0, t1, t2) k (fillT ps g mv (N - i).toNat i (getT (t0, t1, t2) k))).1), ((setT (t0, t1, t2) k (fillT ps g mv (N - i).toNat i (getT (t0, t1, t2) k))).2.1), ((setT (t0, t1, t2) k (fillT ps g mv (N - i).toNat i (getT (t0, t1, t2) k))).2.2), ())))
def R_md4 : LRun := runOf 155 L_md4 (fun x => x) (inv_md4) (O_md4)
theorem K_md4 : LoopOk P [] 155 none noU C_md4 (R_md4) := by
  refine loop_of hm (cx := [c_rstate.gc, c_rin.gc, c_flagL]) [] (xl := X_md4) (α := List (Int × Int) × Int × Unit × Unit × Int × List (List (List Int)) × Int × Int × Int × List Int × List (Int × (Int × (Int × V))) × List Int × List (Int × (Int × (Int × V))) × List Int × List Int × List Int × Unit) (fun x => x) (fun (g, losses, (), (), N, mv, most, k, i, ps, bs, ps', bs', t0, t1, t2, ()) => (N - i).toNat) (fun _ => rfl) (by kernel_rfl) (by kernel_rfl) ?_ (by kernel_rfl) trivial ?_
  · intro e S L' h
    unfold X_md4 at h
    split at h <;> first | (cases h; done) | (cases h; kernel_rfl) | (rcases bif_some h with h | h <;> cases h <;> kernel_rfl)
  · rintro ⟨g, losses, ⟨⟩, ⟨⟩, N, mv, most, k, i, ps, bs, ps', bs', t0, t1, t2, ⟨⟩⟩ hinv Q hQ
    refine hold_of_eq (B_md4 g losses N mv most k i ps bs ps' bs' t0 t1 t2) ?_
    obtain ⟨h0, h1, h2, ⟨h3, h4⟩, h5⟩ := hinv
    have hr := h2.rng
    have hml := h2.ml
    have hgl := h2.gl
    obtain ⟨k1, k2, k3⟩ := h2.rg
    have hsl := stS_len ps i
    refine ⟨fun c1 => ?_, fun c1 => ?_⟩
    · have d1 : i < N := of_decide_eq_true c1
      rw [W_id (n := i + 1) (by omega) (by omega)]
      refine ⟨fun c2 => ?_, fun c2 => ⟨fun c8 => ?_, fun c8 => ⟨fun c14 => ?_, fun c14 => ?_⟩⟩⟩
      · have d2 : k = 2 := of_decide_eq_true c2
        subst d2
        have h5' : (t2.length : Int) = N := h5
        have hQ' : Q (.exit 4, L_md4_0.st noU (g, losses, (), (), N, mv, most, (2 : Int), ps, bs, ps', bs', t0, t1, fillT ps g mv (N - i).toNat i t2, ())) := hQ
        rw [show (N - i).toNat = (N - (i + 1)).toNat + 1 by omega, fillT] at hQ'
        have fin : ∀ v : Int, fillV ps g mv i = v → roundB inv_md4 (fun (_, _, _, _, N, _, _, _, i, _) => (N - i).toNat) O_md4 Q (g, losses, (), (), N, mv, most, (2 : Int), i, ps, bs, ps', bs', t0, t1, t2, ()) (Sum.inl (g, losses, (), (), N, mv, most, (2 : Int), i + 1, ps, bs, ps', bs', t0, t1, t2.set i.toNat v, ())) := fun v q => by
          rw [q] at hQ'
          exact ⟨⟨⟨by omega, by omega, h2, ⟨h3, h4⟩, by show ((t2.set i.toNat v).length : Int) = N; rw [List.length_set]; exact h5'⟩, by show (N - (i + 1)).toNat < (N - i).toNat; omega⟩, hQ'⟩
        refine ⟨⟨by decide, by decide⟩, ⟨h0, by omega⟩, by omega, ⟨h0, by omega⟩, by omega, ⟨fun c3 => ⟨⟨by omega, k3⟩, ⟨by omega, by omega⟩, ⟨fun c4 => ⟨fun _ => ⟨⟨by decide, by decide⟩, ⟨h0, by rw [List.length_set]; omega⟩, by rw [List.length_set]; omega, by rw [List.set_set]; exact fin 0 (by unfold fillV; rw [c3, c4]; rfl)⟩, fun q => absurd q (by decide)⟩, fun c4 => fin (-1) (by unfold fillV; rw [c3, c4]; rfl)⟩⟩, fun c3 => fin (-1) (by unfold fillV; rw [c3]; rfl)⟩⟩
      · have d2 : k = 1 := of_decide_eq_true c8
        subst d2
        have h5' : (t1.length : Int) = N := h5
        have hQ' : Q (.exit 4, L_md4_0.st noU (g, losses, (), (), N, mv, most, (1 : Int), ps, bs, ps', bs', t0, fillT ps g mv (N - i).toNat i t1, t2, ())) := hQ
        rw [show (N - i).toNat = (N - (i + 1)).toNat + 1 by omega, fillT] at hQ'
        have fin : ∀ v : Int, fillV ps g mv i = v → roundB inv_md4 (fun (_, _, _, _, N, _, _, _, i, _) => (N - i).toNat) O_md4 Q (g, losses, (), (), N, mv, most, (1 : Int), i, ps, bs, ps', bs', t0, t1, t2, ()) (Sum.inl (g, losses, (), (), N, mv, most, (1 : Int), i + 1, ps, bs, ps', bs', t0, t1.set i.toNat v, t2, ())) := fun v q => by
          rw [q] at hQ'
          exact ⟨⟨⟨by omega, by omega, h2, ⟨h3, h4⟩, by show ((t1.set i.toNat v).length : Int) = N; rw [List.length_set]; exact h5'⟩, by show (N - (i + 1)).toNat < (N - i).toNat; omega⟩, hQ'⟩
        refine ⟨⟨by decide, by decide⟩, ⟨h0, by omega⟩, by omega, ⟨h0, by omega⟩, by omega, ⟨fun c9 => ⟨⟨by omega, k3⟩, ⟨by omega, by omega⟩, ⟨fun c10 => ⟨fun q => absurd q (by decide), fun _ => ⟨fun _ => ⟨⟨by decide, by decide⟩, ⟨h0, by rw [List.length_set]; omega⟩, by rw [List.length_set]; omega, by rw [List.set_set]; exact fin 0 (by unfold fillV; rw [c9, c10]; rfl)⟩, fun q => absurd q (by decide)⟩⟩, fun c10 => fin (-1) (by unfold fillV; rw [c9, c10]; rfl)⟩⟩, fun c9 => fin (-1) (by unfold fillV; rw [c9]; rfl)⟩⟩
      · have d2 : k = 0 := of_decide_eq_true c14
        subst d2
        have h5' : (t0.length : Int) = N := h5
        have hQ' : Q (.exit 4, L_md4_0.st noU (g, losses, (), (), N, mv, most, (0 : Int), ps, bs, ps', bs', fillT ps g mv (N - i).toNat i t0, t1, t2, ())) := hQ
        rw [show (N - i).toNat = (N - (i + 1)).toNat + 1 by omega, fillT] at hQ'
        have fin : ∀ v : Int, fillV ps g mv i = v → roundB inv_md4 (fun (_, _, _, _, N, _, _, _, i, _) => (N - i).toNat) O_md4 Q (g, losses, (), (), N, mv, most, (0 : Int), i, ps, bs, ps', bs', t0, t1, t2, ()) (Sum.inl (g, losses, (), (), N, mv, most, (0 : Int), i + 1, ps, bs, ps', bs', t0.set i.toNat v, t1, t2, ())) := fun v q => by
          rw [q] at hQ'
          exact ⟨⟨⟨by omega, by omega, h2, ⟨h3, h4⟩, by show ((t0.set i.toNat v).length : Int) = N; rw [List.length_set]; exact h5'⟩, by show (N - (i + 1)).toNat < (N - i).toNat; omega⟩, hQ'⟩
        refine ⟨⟨by decide, by decide⟩, ⟨h0, by omega⟩, by omega, ⟨h0, by omega⟩, by omega, ⟨fun c15 => ⟨⟨by omega, k3⟩, ⟨by omega, by omega⟩, ⟨fun c16 => ⟨fun q => absurd q (by decide), fun _ => ⟨fun q => absurd q (by decide), fun _ => ⟨fun _ => ⟨⟨by decide, by decide⟩, ⟨h0, by rw [List.length_set]; omega⟩, by rw [List.length_set]; omega, by rw [List.set_set]; exact fin 0 (by unfold fillV; rw [c15, c16]; rfl)⟩, fun q => absurd q (by decide)⟩⟩⟩, fun c16 => fin (-1) (by unfold fillV; rw [c15, c16]; rfl)⟩⟩, fun c15 => fin (-1) (by unfold fillV; rw [c15]; rfl)⟩⟩
      · exfalso
        have d2 : ¬ k = 2 := of_decide_eq_false c2
        have d8 : ¬ k = 1 := of_decide_eq_false c8
        have d14 : ¬ k = 0 := of_decide_eq_false c14
        omega
    · have d1 : ¬ i < N := of_decide_eq_false c1
      unfold O_md4 at hQ
      dsimp only at hQ
      rw [show (N - i).toNat = 0 by omega, fillT, setT_get] at hQ
      exact hQ
def L_md8 : Lay := { slots := [(1, .val (.sl tPart)), (2, .val tI), (3, .ptr 4155 0), (7, .ptr 21155 0), (8, .val tI), (9, .row 44 (.sl tIs)), (11, .val tI), (12, .val tI), (14, .val tI), (15, .row 3 tI), (16, .val tI)], boxes := [(4155, [.val tIs, .val (.sl (.pair tI (.pair tI (.pair tI tV))))]), (21155, [.val tIs, .val (.sl (.pair tI (.pair tI (.pair tI tV)))), .row 3 tI, .row 3 tI, .row 3 tI])] }
def L_md8_0 : Lay := { slots := [(1, .val (.sl tPart)), (2, .val tI), (3, .ptr 4155 0), (7, .ptr 21155 0), (8, .val tI), (9, .row 44 (.sl tIs)), (11, .val tI), (12, .val tI), (14, .val tI), (15, .row 3 tI)], boxes := [(4155, [.val tIs, .val (.sl (.pair tI (.pair tI (.pair tI tV))))]), (21155, [.val tIs, .val (.sl (.pair tI (.pair tI (.pair tI tV)))), .row 3 tI, .row 3 tI, .row 3 tI])] }
def X_md8 : Exit → St → Option Lay
  | .exit 8, _ => some L_md8_0
  | _, _ => none
abbrev C_md8 : Code := loopC (inner (loopC (inner (loopC (bodyOf Try.f88) 2)) 6)) 8
theorem B_md8 (g : List (Int × Int)) (losses N : Int) (mv : List (List (List Int))) (most k d : Int) (found : List Int) (i : Int) (ps : List Int) (bs : List (Int × (Int × (Int × V)))) (ps' : List Int) (bs' : List (Int × (Int × (Int × V)))) (t0 t1 t2 : List Int) : loopBodyA (P := P) [c_rstate.gc, c_rbst.gc, c_flagL] (lpOf []) [] 155 noU (inner C_md8) L_md8 X_md8 (α := List (Int × Int) × Int × Unit × Unit × Int × List (List (List Int)) × Int × Int × Int × List Int × Int × List Int × List (Int × (Int × (Int × V))) × List Int × List (Int × (Int × (Int × V))) × List Int × List Int × List Int × Unit) (fun x => x) (fun x => x) (g, losses, (), (), N, mv, most, k, d, found, i, ps, bs, ps', bs', t0, t1, t2, ()) =
  Tree.cond (decide (i < N)) (Tree.cond (decide (k = (↑(nat_lit 2) : Int))) (Tree.need ((0 : Int) ≤ (↑(nat_lit 2) : Int) ∧ (↑(nat_lit 2) : Int) < (↑(3 : Nat) : Int)) (Tree.need ((0 : Int) ≤ i ∧ i < (↑(List.length t2) : Int)) (Tree.need (Int.toNat i < List.length t2) (Tree.cond (decide (List.getD t2 (Int.toNat i) (0 : Int) < (0 : Int))) (Tree.need (List.length ps ≤ (1000 : Nat) ∧ List.any ps badP = false) (Tree.need ((0 : Int) ≤ i ∧ i < (↑(List.length mv) : Int)) (Tree.need (Int.toNat i < List.length mv) (Tree.need (PreB ps' (t0, t1, t2) (stS ps i) (List.getD mv (Int.toNat i) []) k ∧ (↑(List.length (List.getD mv (Int.toNat i) [])) : Int) ≤ (1000 : Int) ∧ ∀ (m : List Int), m ∈ List.getD mv (Int.toNat i) [] → m ≠ []) (Tree.cond (!List.isEmpty (bestT ps' (t0, t1, t2) (stS ps i) (List.getD mv (Int.toNat i) []) k d)) (Tree.need ((List.length found + List.length [i]) * (8 : Nat) ≤ (140737488355328 : Nat)) (Tree.leaf (Sum.inl (g, losses, PUnit.unit, PUnit.unit, N, mv, most, k, d, found ++ [i], IntKind.wrap IntKind.i64 (i + (1 : Int)), ps, bs, ps', bs', t0, t1, t2, PUnit.unit)))) (Tree.leaf (Sum.inl (g, losses, PUnit.unit, PUnit.unit, N, mv, most, k, d, found, IntKind.wrap IntKind.i64 (i + (1 : Int)), ps, bs, ps', bs', t0, t1, t2, PUnit.unit)))))))) (Tree.leaf (Sum.inl (g, losses, PUnit.unit, PUnit.unit, N, mv, most, k, d, found, IntKind.wrap IntKind.i64 (i + (1 : Int)), ps, bs, ps', bs', t0, t1, t2, PUnit.unit))))))) (Tree.cond (decide (k = (↑(nat_lit 1) : Int))) (Tree.need ((0 : Int) ≤ (↑(nat_lit 1) : Int) ∧ (↑(nat_lit 1) : Int) < (↑(3 : Nat) : Int)) (Tree.need ((0 : Int) ≤ i ∧ i < (↑(List.length t1) : Int)) (Tree.need (Int.toNat i < List.length t1) (Tree.cond (decide (List.getD t1 (Int.toNat i) (0 : Int) < (0 : Int))) (Tree.need (List.length ps ≤ (1000 : Nat) ∧ List.any ps badP = false) (Tree.need ((0 : Int) ≤ i ∧ i < (↑(List.length mv) : Int)) (Tree.need (Int.toNat i < List.length mv) (Tree.need (PreB ps' (t0, t1, t2) (stS ps i) (List.getD mv (Int.toNat i) []) k ∧ (↑(List.length (List.getD mv (Int.toNat i) [])) : Int) ≤ (1000 : Int) ∧ ∀ (m : List Int), m ∈ List.getD mv (Int.toNat i) [] → m ≠ []) (Tree.cond (!List.isEmpty (bestT ps' (t0, t1, t2) (stS ps i) (List.getD mv (Int.toNat i) []) k d)) (Tree.need ((List.length found + List.length [i]) * (8 : Nat) ≤ (140737488355328 : Nat)) (Tree.leaf (Sum.inl (g, losses, PUnit.unit, PUnit.unit, N, mv, most, k, d, found ++ [i], IntKind.wrap IntKind.i64 (i + (1 : Int)), ps, bs, ps', bs', t0, t1, t2, PUnit.unit)))) (Tree.leaf (Sum.inl (g, losses, PUnit.unit, PUnit.unit, N, mv, most, k, d, found, IntKind.wrap IntKind.i64 (i + (1 : Int)), ps, bs, ps', bs', t0, t1, t2, PUnit.unit)))))))) (Tree.leaf (Sum.inl (g, losses, PUnit.unit, PUnit.unit, N, mv, most, k, d, found, IntKind.wrap IntKind.i64 (i + (1 : Int)), ps, bs, ps', bs', t0, t1, t2, PUnit.unit))))))) (Tree.cond (decide (k = (↑(nat_lit 0) : Int))) (Tree.need ((0 : Int) ≤ (↑(nat_lit 0) : Int) ∧ (↑(nat_lit 0) : Int) < (↑(3 : Nat) : Int)) (Tree.need ((0 : Int) ≤ i ∧ i < (↑(List.length t0) : Int)) (Tree.need (Int.toNat i < List.length t0) (Tree.cond (decide (List.getD t0 (Int.toNat i) (0 : Int) < (0 : Int))) (Tree.need (List.length ps ≤ (1000 : Nat) ∧ List.any ps badP = false) (Tree.need ((0 : Int) ≤ i ∧ i < (↑(List.length mv) : Int)) (Tree.need (Int.toNat i < List.length mv) (Tree.need (PreB ps' (t0, t1, t2) (stS ps i) (List.getD mv (Int.toNat i) []) k ∧ (↑(List.length (List.getD mv (Int.toNat i) [])) : Int) ≤ (1000 : Int) ∧ ∀ (m : List Int), m ∈ List.getD mv (Int.toNat i) [] → m ≠ []) (Tree.cond (!List.isEmpty (bestT ps' (t0, t1, t2) (stS ps i) (List.getD mv (Int.toNat i) []) k d)) (Tree.need ((List.length found + List.length [i]) * (8 : Nat) ≤ (140737488355328 : Nat)) (Tree.leaf (Sum.inl (g, losses, PUnit.unit, PUnit.unit, N, mv, most, k, d, found ++ [i], IntKind.wrap IntKind.i64 (i + (1 : Int)), ps, bs, ps', bs', t0, t1, t2, PUnit.unit)))) (Tree.leaf (Sum.inl (g, losses, PUnit.unit, PUnit.unit, N, mv, most, k, d, found, IntKind.wrap IntKind.i64 (i + (1 : Int)), ps, bs, ps', bs', t0, t1, t2, PUnit.unit)))))))) (Tree.leaf (Sum.inl (g, losses, PUnit.unit, PUnit.unit, N, mv, most, k, d, found, IntKind.wrap IntKind.i64 (i + (1 : Int)), ps, bs, ps', bs', t0, t1, t2, PUnit.unit))))))) (Tree.fail (31 : Nat))))) (Tree.leaf (Sum.inr (Exit.exit (8 : Nat), Lay.st L_md8_0 noU (g, losses, PUnit.unit, PUnit.unit, N, mv, most, k, d, found, ps, bs, ps', bs', t0, t1, t2, PUnit.unit)))) := by kernel_rfl
def inv_md8 : List (Int × Int) × Int × Unit × Unit × Int × List (List (List Int)) × Int × Int × Int × List Int × Int × List Int × List (Int × (Int × (Int × V))) × List Int × List (Int × (Int × (Int × V))) × List Int × List Int × List Int × Unit → Prop := fun (g, losses, (), (), N, mv, most, k, d, found, i, ps, bs, ps', bs', t0, t1, t2, ()) => 0 ≤ i ∧ i ≤ N ∧ TabI ps bs ps' bs' g N mv ∧ (0 ≤ k ∧ k ≤ 2) ∧ RowsK (t0, t1, t2) k N ∧ (found.length : Int) ≤ i
def O_md8 : List (Int × Int) × Int × Unit × Unit × Int × List (List (List Int)) × Int × Int × Int × List Int × Int × List Int × List (Int × (Int × (Int × V))) × List Int × List (Int × (Int × (Int × V))) × List Int × List Int × List Int × Unit → Tree (Exit × St) := fun (g, losses, (), (), N, mv, most, k, d, found, i, ps, bs, ps', bs', t0, t1, t2, ()) => (.leaf (.exit 8, L_md8_0.st noU (g, losses, (), (), N, mv, most, k, d, (fndT ps mv (t0, t1, t2) k d (N - i).toNat i found), ps, bs, ps', bs', t0, t1, t2, ())))
def R_md8 : LRun := runOf 155 L_md8 (fun x => x) (inv_md8) (O_md8)
theorem K_md8 : LoopOk P [] 155 none noU C_md8 (R_md8) := by
  refine loop_of hm (cx := [c_rstate.gc, c_rbst.gc, c_flagL]) [] (xl := X_md8) (α := List (Int × Int) × Int × Unit × Unit × Int × List (List (List Int)) × Int × Int × Int × List Int × Int × List Int × List (Int × (Int × (Int × V))) × List Int × List (Int × (Int × (Int × V))) × List Int × List Int × List Int × Unit) (fun x => x) (fun (g, losses, (), (), N, mv, most, k, d, found, i, ps, bs, ps', bs', t0, t1, t2, ()) => (N - i).toNat) (fun _ => rfl) (by kernel_rfl) (by kernel_rfl) ?_ (by kernel_rfl) trivial ?_
  · intro e S L' h
    unfold X_md8 at h
    split at h <;> first | (cases h; done) | (cases h; kernel_rfl) | (rcases bif_some h with h | h <;> cases h <;> kernel_rfl)
  · rintro ⟨g, losses, ⟨⟩, ⟨⟩, N, mv, most, k, d, found, i, ps, bs, ps', bs', t0, t1, t2, ⟨⟩⟩ hinv Q hQ
    refine hold_of_eq (B_md8 g losses N mv most k d found i ps bs ps' bs' t0 t1 t2) ?_
    obtain ⟨h0, h1, h2, ⟨h3, h4⟩, h5, h6⟩ := hinv
    have hr := h2.rng
    have hml := h2.ml
    have e1 := h2.e1
    subst e1
    obtain ⟨k1, k2, k3⟩ := h2.rg
    have hsl := stS_len ps' i
    have hQ' : Q (.exit 8, L_md8_0.st noU (g, losses, (), (), N, mv, most, k, d, fndT ps' mv (t0, t1, t2) k d (N - i).toNat i found, ps', bs, ps', bs', t0, t1, t2, ())) := hQ
    refine ⟨fun c1 => ?_, fun c1 => ?_⟩
    · have d1 : i < N := of_decide_eq_true c1
      rw [W_id (n := i + 1) (by omega) (by omega)]
      rw [show (N - i).toNat = (N - (i + 1)).toNat + 1 by omega, fndT] at hQ'
      have hmv := h2.mv i h0 d1
      have cap : (found.length + 1) * 8 ≤ 140737488355328 := by omega
      have hB : PreB ps' (t0, t1, t2) (stS ps' i) (mv.getD i.toNat []) k ∧ ((mv.getD i.toNat []).length : Int) ≤ 1000 ∧ ∀ m ∈ mv.getD i.toNat [], m ≠ [] := by
        rw [hmv]
        exact ⟨⟨fun m hm => (movesS_pre h2.ck hm).1, h3, h4, fun l q0 q1 => by rw [h5 l q0 q1, h2.eN]⟩, movesS_few h2.ck, fun m hm => (movesS_pre h2.ck hm).2⟩
      have no : goodT ps' mv (t0, t1, t2) k d i = false → roundB inv_md8 (fun (_, _, _, _, N, _, _, _, _, _, i, _) => (N - i).toNat) O_md8 Q (g, losses, (), (), N, mv, most, k, d, found, i, ps', bs, ps', bs', t0, t1, t2, ()) (Sum.inl (g, losses, (), (), N, mv, most, k, d, found, i + 1, ps', bs, ps', bs', t0, t1, t2, ())) := fun q => by
        rw [if_neg (by rw [q]; decide)] at hQ'
        exact ⟨⟨⟨by omega, by omega, h2, ⟨h3, h4⟩, h5, by omega⟩, by show (N - (i + 1)).toNat < (N - i).toNat; omega⟩, hQ'⟩
      have yes : goodT ps' mv (t0, t1, t2) k d i = true → roundB inv_md8 (fun (_, _, _, _, N, _, _, _, _, _, i, _) => (N - i).toNat) O_md8 Q (g, losses, (), (), N, mv, most, k, d, found, i, ps', bs, ps', bs', t0, t1, t2, ()) (Sum.inl (g, losses, (), (), N, mv, most, k, d, found ++ [i], i + 1, ps', bs, ps', bs', t0, t1, t2, ())) := fun q => by
        rw [if_pos q] at hQ'
        exact ⟨⟨⟨by omega, by omega, h2, ⟨h3, h4⟩, h5, by rw [List.length_append, List.length_singleton]; omega⟩, by show (N - (i + 1)).toNat < (N - i).toNat; omega⟩, hQ'⟩
      refine ⟨fun c2 => ?_, fun c2 => ⟨fun c5 => ?_, fun c5 => ⟨fun c8 => ?_, fun c8 => ?_⟩⟩⟩
      · have d2 : k = 2 := of_decide_eq_true c2
        subst d2
        have h5' : (t2.length : Int) = N := h5 2 (by decide) (by decide)
        refine ⟨⟨by decide, by decide⟩, ⟨h0, by omega⟩, by omega, ⟨fun c3 => ⟨⟨by omega, k3⟩, ⟨h0, by omega⟩, by omega, hB, ⟨fun c4 => ⟨cap, yes ?_⟩, fun c4 => no ?_⟩⟩, fun c3 => no ?_⟩⟩
        · unfold goodT
          rw [show decide ((getT (t0, t1, t2) 2).getD i.toNat 0 < 0) = true from c3, show (!(bestT ps' (t0, t1, t2) (stS ps' i) (mv.getD i.toNat []) 2 d).isEmpty) = true from c4]; rfl
        · unfold goodT
          rw [show (!(bestT ps' (t0, t1, t2) (stS ps' i) (mv.getD i.toNat []) 2 d).isEmpty) = false from c4, Bool.and_false]
        · unfold goodT
          rw [show decide ((getT (t0, t1, t2) 2).getD i.toNat 0 < 0) = false from c3, Bool.false_and]
      · have d2 : k = 1 := of_decide_eq_true c5
        subst d2
        have h5' : (t1.length : Int) = N := h5 1 (by decide) (by decide)
        refine ⟨⟨by decide, by decide⟩, ⟨h0, by omega⟩, by omega, ⟨fun c6 => ⟨⟨by omega, k3⟩, ⟨h0, by omega⟩, by omega, hB, ⟨fun c7 => ⟨cap, yes ?_⟩, fun c7 => no ?_⟩⟩, fun c6 => no ?_⟩⟩
        · unfold goodT
          rw [show decide ((getT (t0, t1, t2) 1).getD i.toNat 0 < 0) = true from c6, show (!(bestT ps' (t0, t1, t2) (stS ps' i) (mv.getD i.toNat []) 1 d).isEmpty) = true from c7]; rfl
        · unfold goodT
          rw [show (!(bestT ps' (t0, t1, t2) (stS ps' i) (mv.getD i.toNat []) 1 d).isEmpty) = false from c7, Bool.and_false]
        · unfold goodT
          rw [show decide ((getT (t0, t1, t2) 1).getD i.toNat 0 < 0) = false from c6, Bool.false_and]
      · have d2 : k = 0 := of_decide_eq_true c8
        subst d2
        have h5' : (t0.length : Int) = N := h5 0 (by decide) (by decide)
        refine ⟨⟨by decide, by decide⟩, ⟨h0, by omega⟩, by omega, ⟨fun c9 => ⟨⟨by omega, k3⟩, ⟨h0, by omega⟩, by omega, hB, ⟨fun c10 => ⟨cap, yes ?_⟩, fun c10 => no ?_⟩⟩, fun c9 => no ?_⟩⟩
        · unfold goodT
          rw [show decide ((getT (t0, t1, t2) 0).getD i.toNat 0 < 0) = true from c9, show (!(bestT ps' (t0, t1, t2) (stS ps' i) (mv.getD i.toNat []) 0 d).isEmpty) = true from c10]; rfl
        · unfold goodT
          rw [show (!(bestT ps' (t0, t1, t2) (stS ps' i) (mv.getD i.toNat []) 0 d).isEmpty) = false from c10, Bool.and_false]
        · unfold goodT
          rw [show decide ((getT (t0, t1, t2) 0).getD i.toNat 0 < 0) = false from c9, Bool.false_and]
      · exfalso
        have d2 : ¬ k = 2 := of_decide_eq_false c2
        have d8 : ¬ k = 1 := of_decide_eq_false c5
        have d14 : ¬ k = 0 := of_decide_eq_false c8
        omega
    · have d1 : ¬ i < N := of_decide_eq_false c1
      rw [show (N - i).toNat = 0 by omega] at hQ'
      exact hQ'
def L_md10 : Lay := { slots := [(1, .val (.sl tPart)), (2, .val tI), (3, .ptr 4155 0), (7, .ptr 21155 0), (8, .val tI), (9, .row 44 (.sl tIs)), (11, .val tI), (12, .val tI), (14, .val tI), (15, .row 3 tI), (17, .val tI)], boxes := [(4155, [.val tIs, .val (.sl (.pair tI (.pair tI (.pair tI tV))))]), (21155, [.val tIs, .val (.sl (.pair tI (.pair tI (.pair tI tV)))), .row 3 tI, .row 3 tI, .row 3 tI])] }
def L_md10_0 : Lay := { slots := [(1, .val (.sl tPart)), (2, .val tI), (3, .ptr 4155 0), (7, .ptr 21155 0), (8, .val tI), (9, .row 44 (.sl tIs)), (11, .val tI), (12, .val tI), (14, .val tI), (15, .row 3 tI)], boxes := [(4155, [.val tIs, .val (.sl (.pair tI (.pair tI (.pair tI tV))))]), (21155, [.val tIs, .val (.sl (.pair tI (.pair tI (.pair tI tV)))), .row 3 tI, .row 3 tI, .row 3 tI])] }
def X_md10 : Exit → St → Option Lay
  | .exit 10, _ => some L_md10_0
  | _, _ => none
abbrev C_md10 : Code := loopC (inner (loopC (inner (loopC (bodyOf Try.f88) 2)) 6)) 10
theorem B_md10 (g : List (Int × Int)) (losses N : Int) (mv : List (List (List Int))) (most k d : Int) (found : List Int) (i : Int) (ps : List Int) (bs : List (Int × (Int × (Int × V)))) (ps' : List Int) (bs' : List (Int × (Int × (Int × V)))) (t0 t1 t2 : List Int) : loopBodyA (P := P) [c_flagL] (lpOf []) [] 155 noU (inner C_md10) L_md10 X_md10 (α := List (Int × Int) × Int × Unit × Unit × Int × List (List (List Int)) × Int × Int × Int × List Int × Int × List Int × List (Int × (Int × (Int × V))) × List Int × List (Int × (Int × (Int × V))) × List Int × List Int × List Int × Unit) (fun x => x) (fun x => x) (g, losses, (), (), N, mv, most, k, d, found, i, ps, bs, ps', bs', t0, t1, t2, ()) =
  Tree.cond (decide (i < (↑(List.length found) : Int))) (Tree.cond (decide (k = (↑(nat_lit 2) : Int))) (Tree.need ((0 : Int) ≤ (↑(nat_lit 2) : Int) ∧ (↑(nat_lit 2) : Int) < (↑(3 : Nat) : Int)) (Tree.need ((0 : Int) ≤ i ∧ i < (↑(List.length found) : Int)) (Tree.need (Int.toNat i < List.length found) (Tree.need ((0 : Int) ≤ List.getD found (Int.toNat i) (0 : Int) ∧ List.getD found (Int.toNat i) (0 : Int) < (↑(List.length t2) : Int)) (Tree.need (Int.toNat (List.getD found (Int.toNat i) (0 : Int)) < List.length t2) (Tree.leaf (Sum.inl (g, losses, PUnit.unit, PUnit.unit, N, mv, most, k, d, found, IntKind.wrap IntKind.i64 (i + (1 : Int)), ps, bs, ps', bs', t0, t1, List.set t2 (Int.toNat (List.getD found (Int.toNat i) (0 : Int))) d, PUnit.unit)))))))) (Tree.cond (decide (k = (↑(nat_lit 1) : Int))) (Tree.need ((0 : Int) ≤ (↑(nat_lit 1) : Int) ∧ (↑(nat_lit 1) : Int) < (↑(3 : Nat) : Int)) (Tree.need ((0 : Int) ≤ i ∧ i < (↑(List.length found) : Int)) (Tree.need (Int.toNat i < List.length found) (Tree.need ((0 : Int) ≤ List.getD found (Int.toNat i) (0 : Int) ∧ List.getD found (Int.toNat i) (0 : Int) < (↑(List.length t1) : Int)) (Tree.need (Int.toNat (List.getD found (Int.toNat i) (0 : Int)) < List.length t1) (Tree.leaf (Sum.inl (g, losses, PUnit.unit, PUnit.unit, N, mv, most, k, d, found, IntKind.wrap IntKind.i64 (i + (1 : Int)), ps, bs, ps', bs', t0, List.set t1 (Int.toNat (List.getD found (Int.toNat i) (0 : Int))) d, t2, PUnit.unit)))))))) (Tree.cond (decide (k = (↑(nat_lit 0) : Int))) (Tree.need ((0 : Int) ≤ (↑(nat_lit 0) : Int) ∧ (↑(nat_lit 0) : Int) < (↑(3 : Nat) : Int)) (Tree.need ((0 : Int) ≤ i ∧ i < (↑(List.length found) : Int)) (Tree.need (Int.toNat i < List.length found) (Tree.need ((0 : Int) ≤ List.getD found (Int.toNat i) (0 : Int) ∧ List.getD found (Int.toNat i) (0 : Int) < (↑(List.length t0) : Int)) (Tree.need (Int.toNat (List.getD found (Int.toNat i) (0 : Int)) < List.length t0) (Tree.leaf (Sum.inl (g, losses, PUnit.unit, PUnit.unit, N, mv, most, k, d, found, IntKind.wrap IntKind.i64 (i + (1 : Int)), ps, bs, ps', bs', List.set t0 (Int.toNat (List.getD found (Int.toNat i) (0 : Int))) d, t1, t2, PUnit.unit)))))))) (Tree.fail (31 : Nat))))) (Tree.leaf (Sum.inr (Exit.exit (10 : Nat), Lay.st L_md10_0 noU (g, losses, PUnit.unit, PUnit.unit, N, mv, most, k, d, found, ps, bs, ps', bs', t0, t1, t2, PUnit.unit)))) := by kernel_rfl
def inv_md10 : List (Int × Int) × Int × Unit × Unit × Int × List (List (List Int)) × Int × Int × Int × List Int × Int × List Int × List (Int × (Int × (Int × V))) × List Int × List (Int × (Int × (Int × V))) × List Int × List Int × List Int × Unit → Prop := fun (g, losses, (), (), N, mv, most, k, d, found, i, ps, bs, ps', bs', t0, t1, t2, ()) => 0 ≤ i ∧ i ≤ found.length ∧ (found.length : Int) ≤ 5000 ∧ (0 ≤ k ∧ k ≤ 2) ∧ ((getT (t0, t1, t2) k).length : Int) = N ∧ ∀ x ∈ found, 0 ≤ x ∧ x < N
def O_md10 : List (Int × Int) × Int × Unit × Unit × Int × List (List (List Int)) × Int × Int × Int × List Int × Int × List Int × List (Int × (Int × (Int × V))) × List Int × List (Int × (Int × (Int × V))) × List Int × List Int × List Int × Unit → Tree (Exit × St) := fun (g, losses, (), (), N, mv, most, k, d, found, i, ps, bs, ps', bs', t0, t1, t2, ()) => (.leaf (.exit 10, L_md10_0.st noU (g, losses, (), (), N, mv, most, k, d, found, ps, bs, ps', bs', ((setT (t0, t1, t2) k (putT d (found.drop i.toNat) (getT (t0, t1, t2) k))).1), ((setT (t0, t1, t2) k (putT d (found.drop i.toNat) (getT (t0, t1, t2) k))).2.1), ((setT (t0, t1, t2) k (putT d (found.drop i.toNat) (getT (t0, t1, t2) k))).2.2), ())))
def R_md10 : LRun := runOf 155 L_md10 (fun x => x) (inv_md10) (O_md10)
theorem K_md10 : LoopOk P [] 155 none noU C_md10 (R_md10) := by
  refine loop_of hm (cx := [c_flagL]) [] (xl := X_md10) (α := List (Int × Int) × Int × Unit × Unit × Int × List (List (List Int)) × Int × Int × Int × List Int × Int × List Int × List (Int × (Int × (Int × V))) × List Int × List (Int × (Int × (Int × V))) × List Int × List Int × List Int × Unit) (fun x => x) (fun (g, losses, (), (), N, mv, most, k, d, found, i, ps, bs, ps', bs', t0, t1, t2, ()) => ((found.length : Int) - i).toNat) (fun _ => rfl) (by kernel_rfl) (by kernel_rfl) ?_ (by kernel_rfl) trivial ?_
  · intro e S L' h
    unfold X_md10 at h
    split at h <;> first | (cases h; done) | (cases h; kernel_rfl) | (rcases bif_some h with h | h <;> cases h <;> kernel_rfl)
  · rintro ⟨g, losses, ⟨⟩, ⟨⟩, N, mv, most, k, d, found, i, ps, bs, ps', bs', t0, t1, t2, ⟨⟩⟩ hinv Q hQ
    refine hold_of_eq (B_md10 g losses N mv most k d found i ps bs ps' bs' t0 t1 t2) ?_
    obtain ⟨h0, h1, h2, ⟨h3, h4⟩, h5, h6⟩ := hinv
    refine ⟨fun c1 => ?_, fun c1 => ?_⟩
    · have d1 : i < found.length := of_decide_eq_true c1
      obtain ⟨x0, x1⟩ := h6 _ (getD_mem (d := (0 : Int)) (show i.toNat < found.length by omega))
      rw [W_id (n := i + 1) (by omega) (by omega)]
      refine ⟨fun c2 => ?_, fun c2 => ⟨fun c3 => ?_, fun c3 => ⟨fun c4 => ?_, fun c4 => ?_⟩⟩⟩
      · have d2 : k = 2 := of_decide_eq_true c2
        subst d2
        have h5' : (t2.length : Int) = N := h5
        have hQ' : Q (.exit 10, L_md10_0.st noU (g, losses, (), (), N, mv, most, (2 : Int), d, found, ps, bs, ps', bs', t0, t1, putT d (found.drop i.toNat) t2, ())) := hQ
        rw [putT_step h0 d1] at hQ'
        exact ⟨⟨by decide, by decide⟩, ⟨h0, d1⟩, by omega, ⟨x0, by omega⟩, by omega, ⟨⟨by omega, by omega, h2, ⟨h3, h4⟩, by show ((t2.set (found.getD i.toNat 0).toNat d).length : Int) = N; rw [List.length_set]; exact h5', h6⟩, by show ((found.length : Int) - (i + 1)).toNat < ((found.length : Int) - i).toNat; omega⟩, hQ'⟩
      · have d2 : k = 1 := of_decide_eq_true c3
        subst d2
        have h5' : (t1.length : Int) = N := h5
        have hQ' : Q (.exit 10, L_md10_0.st noU (g, losses, (), (), N, mv, most, (1 : Int), d, found, ps, bs, ps', bs', t0, putT d (found.drop i.toNat) t1, t2, ())) := hQ
        rw [putT_step h0 d1] at hQ'
        exact ⟨⟨by decide, by decide⟩, ⟨h0, d1⟩, by omega, ⟨x0, by omega⟩, by omega, ⟨⟨by omega, by omega, h2, ⟨h3, h4⟩, by show ((t1.set (found.getD i.toNat 0).toNat d).length : Int) = N; rw [List.length_set]; exact h5', h6⟩, by show ((found.length : Int) - (i + 1)).toNat < ((found.length : Int) - i).toNat; omega⟩, hQ'⟩
      · have d2 : k = 0 := of_decide_eq_true c4
        subst d2
        have h5' : (t0.length : Int) = N := h5
        have hQ' : Q (.exit 10, L_md10_0.st noU (g, losses, (), (), N, mv, most, (0 : Int), d, found, ps, bs, ps', bs', putT d (found.drop i.toNat) t0, t1, t2, ())) := hQ
        rw [putT_step h0 d1] at hQ'
        exact ⟨⟨by decide, by decide⟩, ⟨h0, d1⟩, by omega, ⟨x0, by omega⟩, by omega, ⟨⟨by omega, by omega, h2, ⟨h3, h4⟩, by show ((t0.set (found.getD i.toNat 0).toNat d).length : Int) = N; rw [List.length_set]; exact h5', h6⟩, by show ((found.length : Int) - (i + 1)).toNat < ((found.length : Int) - i).toNat; omega⟩, hQ'⟩
      · exfalso
        have d2 : ¬ k = 2 := of_decide_eq_false c2
        have d8 : ¬ k = 1 := of_decide_eq_false c3
        have d14 : ¬ k = 0 := of_decide_eq_false c4
        omega
    · have d1 : ¬ i < found.length := of_decide_eq_false c1
      unfold O_md10 at hQ
      dsimp only at hQ
      rw [drop_end d1, putT_nil, setT_get] at hQ
      exact hQ
def L_md6 : Lay := { slots := [(1, .val (.sl tPart)), (2, .val tI), (3, .ptr 4155 0), (7, .ptr 21155 0), (8, .val tI), (9, .row 44 (.sl tIs)), (11, .val tI), (12, .val tI), (14, .val tI)], boxes := [(4155, [.val tIs, .val (.sl (.pair tI (.pair tI (.pair tI tV))))]), (21155, [.val tIs, .val (.sl (.pair tI (.pair tI (.pair tI tV)))), .row 3 tI, .row 3 tI, .row 3 tI])] }
def L_md6_0 : Lay := { slots := [(1, .val (.sl tPart)), (2, .val tI), (3, .ptr 4155 0), (7, .ptr 21155 0), (8, .val tI), (9, .row 44 (.sl tIs)), (11, .val tI), (12, .val tI)], boxes := [(4155, [.val tIs, .val (.sl (.pair tI (.pair tI (.pair tI tV))))]), (21155, [.val tIs, .val (.sl (.pair tI (.pair tI (.pair tI tV)))), .row 3 tI, .row 3 tI, .row 3 tI])] }
def X_md6 : Exit → St → Option Lay
  | .exit 6, _ => some L_md6_0
  | _, _ => none
abbrev C_md6 : Code := loopC (inner (loopC (bodyOf Try.f88) 2)) 6
theorem B_md6 (g : List (Int × Int)) (losses N : Int) (mv : List (List (List Int))) (most k d : Int) (ps : List Int) (bs : List (Int × (Int × (Int × V)))) (ps' : List Int) (bs' : List (Int × (Int × (Int × V)))) (t0 t1 t2 : List Int) : loopBodyA (P := P) [c_flagL] (lpOf [(8, R_md8), (10, R_md10)]) [] 155 noU (inner C_md6) L_md6 X_md6 (α := List (Int × Int) × Int × Unit × Unit × Int × List (List (List Int)) × Int × Int × Int × List Int × List (Int × (Int × (Int × V))) × List Int × List (Int × (Int × (Int × V))) × List Int × List Int × List Int × Unit) (fun x => x) (fun x => x) (g, losses, (), (), N, mv, most, k, d, ps, bs, ps', bs', t0, t1, t2, ()) =
  Tree.cond (decide (d ≤ (64 : Int))) (Tree.need (inv_md8 (g, losses, (), (), N, mv, most, k, d, [], (0 : Int), ps, bs, ps', bs', t0, t1, t2, ())) (Tree.need (inv_md10 (g, losses, (), (), N, mv, most, k, d, fndT ps mv (t0, t1, t2) k d (Int.toNat (N - (0 : Int))) (0 : Int) [], (0 : Int), ps, bs, ps', bs', t0, t1, t2, ())) (Tree.cond ((↑(List.length (fndT ps mv (t0, t1, t2) k d (Int.toNat (N - (0 : Int))) (0 : Int) [])) : Int) == (0 : Int)) (Tree.cond (decide (d > IntKind.wrap IntKind.i64 (most + (1 : Int)))) (Tree.leaf (Sum.inr (Exit.exit (6 : Nat), Lay.st L_md6_0 noU (g, losses, PUnit.unit, PUnit.unit, N, mv, most, k, ps, bs, ps', bs', (setT (t0, t1, t2) k (putT d (List.drop (Int.toNat (0 : Int)) (fndT ps mv (t0, t1, t2) k d (Int.toNat (N - (0 : Int))) (0 : Int) [])) (getT (t0, t1, t2) k))).fst, (setT (t0, t1, t2) k (putT d (List.drop (Int.toNat (0 : Int)) (fndT ps mv (t0, t1, t2) k d (Int.toNat (N - (0 : Int))) (0 : Int) [])) (getT (t0, t1, t2) k))).snd.fst, (setT (t0, t1, t2) k (putT d (List.drop (Int.toNat (0 : Int)) (fndT ps mv (t0, t1, t2) k d (Int.toNat (N - (0 : Int))) (0 : Int) [])) (getT (t0, t1, t2) k))).snd.snd, PUnit.unit)))) (Tree.cond (decide ((↑(List.length (fndT ps mv (t0, t1, t2) k d (Int.toNat (N - (0 : Int))) (0 : Int) [])) : Int) > (0 : Int))) (Tree.leaf (Sum.inl (g, losses, PUnit.unit, PUnit.unit, N, mv, maxI most d, k, IntKind.wrap IntKind.i64 (d + (1 : Int)), ps, bs, ps', bs', (setT (t0, t1, t2) k (putT d (List.drop (Int.toNat (0 : Int)) (fndT ps mv (t0, t1, t2) k d (Int.toNat (N - (0 : Int))) (0 : Int) [])) (getT (t0, t1, t2) k))).fst, (setT (t0, t1, t2) k (putT d (List.drop (Int.toNat (0 : Int)) (fndT ps mv (t0, t1, t2) k d (Int.toNat (N - (0 : Int))) (0 : Int) [])) (getT (t0, t1, t2) k))).snd.fst, (setT (t0, t1, t2) k (putT d (List.drop (Int.toNat (0 : Int)) (fndT ps mv (t0, t1, t2) k d (Int.toNat (N - (0 : Int))) (0 : Int) [])) (getT (t0, t1, t2) k))).snd.snd, PUnit.unit))) (Tree.leaf (Sum.inl (g, losses, PUnit.unit, PUnit.unit, N, mv, most, k, IntKind.wrap IntKind.i64 (d + (1 : Int)), ps, bs, ps', bs', (setT (t0, t1, t2) k (putT d (List.drop (Int.toNat (0 : Int)) (fndT ps mv (t0, t1, t2) k d (Int.toNat (N - (0 : Int))) (0 : Int) [])) (getT (t0, t1, t2) k))).fst, (setT (t0, t1, t2) k (putT d (List.drop (Int.toNat (0 : Int)) (fndT ps mv (t0, t1, t2) k d (Int.toNat (N - (0 : Int))) (0 : Int) [])) (getT (t0, t1, t2) k))).snd.fst, (setT (t0, t1, t2) k (putT d (List.drop (Int.toNat (0 : Int)) (fndT ps mv (t0, t1, t2) k d (Int.toNat (N - (0 : Int))) (0 : Int) [])) (getT (t0, t1, t2) k))).snd.snd, PUnit.unit))))) (Tree.cond (decide ((↑(List.length (fndT ps mv (t0, t1, t2) k d (Int.toNat (N - (0 : Int))) (0 : Int) [])) : Int) > (0 : Int))) (Tree.leaf (Sum.inl (g, losses, PUnit.unit, PUnit.unit, N, mv, maxI most d, k, IntKind.wrap IntKind.i64 (d + (1 : Int)), ps, bs, ps', bs', (setT (t0, t1, t2) k (putT d (List.drop (Int.toNat (0 : Int)) (fndT ps mv (t0, t1, t2) k d (Int.toNat (N - (0 : Int))) (0 : Int) [])) (getT (t0, t1, t2) k))).fst, (setT (t0, t1, t2) k (putT d (List.drop (Int.toNat (0 : Int)) (fndT ps mv (t0, t1, t2) k d (Int.toNat (N - (0 : Int))) (0 : Int) [])) (getT (t0, t1, t2) k))).snd.fst, (setT (t0, t1, t2) k (putT d (List.drop (Int.toNat (0 : Int)) (fndT ps mv (t0, t1, t2) k d (Int.toNat (N - (0 : Int))) (0 : Int) [])) (getT (t0, t1, t2) k))).snd.snd, PUnit.unit))) (Tree.leaf (Sum.inl (g, losses, PUnit.unit, PUnit.unit, N, mv, most, k, IntKind.wrap IntKind.i64 (d + (1 : Int)), ps, bs, ps', bs', (setT (t0, t1, t2) k (putT d (List.drop (Int.toNat (0 : Int)) (fndT ps mv (t0, t1, t2) k d (Int.toNat (N - (0 : Int))) (0 : Int) [])) (getT (t0, t1, t2) k))).fst, (setT (t0, t1, t2) k (putT d (List.drop (Int.toNat (0 : Int)) (fndT ps mv (t0, t1, t2) k d (Int.toNat (N - (0 : Int))) (0 : Int) [])) (getT (t0, t1, t2) k))).snd.fst, (setT (t0, t1, t2) k (putT d (List.drop (Int.toNat (0 : Int)) (fndT ps mv (t0, t1, t2) k d (Int.toNat (N - (0 : Int))) (0 : Int) [])) (getT (t0, t1, t2) k))).snd.snd, PUnit.unit))))))) (Tree.leaf (Sum.inr (Exit.exit (6 : Nat), Lay.st L_md6_0 noU (g, losses, PUnit.unit, PUnit.unit, N, mv, most, k, ps, bs, ps', bs', t0, t1, t2, PUnit.unit)))) := by kernel_rfl
def inv_md6 : List (Int × Int) × Int × Unit × Unit × Int × List (List (List Int)) × Int × Int × Int × List Int × List (Int × (Int × (Int × V))) × List Int × List (Int × (Int × (Int × V))) × List Int × List Int × List Int × Unit → Prop := fun (g, losses, (), (), N, mv, most, k, d, ps, bs, ps', bs', t0, t1, t2, ()) => 1 ≤ d ∧ d ≤ 65 ∧ TabI ps bs ps' bs' g N mv ∧ (0 ≤ k ∧ k ≤ 2) ∧ RowsK (t0, t1, t2) k N ∧ (0 ≤ most ∧ most ≤ 64)
def O_md6 : List (Int × Int) × Int × Unit × Unit × Int × List (List (List Int)) × Int × Int × Int × List Int × List (Int × (Int × (Int × V))) × List Int × List (Int × (Int × (Int × V))) × List Int × List Int × List Int × Unit → Tree (Exit × St) := fun (g, losses, (), (), N, mv, most, k, d, ps, bs, ps', bs', t0, t1, t2, ()) => (.leaf (.exit 6, L_md6_0.st noU (g, losses, (), (), N, mv, ((layT ps mv N k (65 - d).toNat d most (t0, t1, t2)).1), k, ps, bs, ps', bs', ((layT ps mv N k (65 - d).toNat d most (t0, t1, t2)).2.1), ((layT ps mv N k (65 - d).toNat d most (t0, t1, t2)).2.2.1), ((layT ps mv N k (65 - d).toNat d most (t0, t1, t2)).2.2.2), ())))
def R_md6 : LRun := runOf 155 L_md6 (fun x => x) (inv_md6) (O_md6)
theorem K_md6 : LoopOk P [] 155 none noU C_md6 (R_md6) := by
  refine loop_of hm (cx := [c_flagL]) [(8, R_md8), (10, R_md10)] (xl := X_md6) (α := List (Int × Int) × Int × Unit × Unit × Int × List (List (List Int)) × Int × Int × Int × List Int × List (Int × (Int × (Int × V))) × List Int × List (Int × (Int × (Int × V))) × List Int × List Int × List Int × Unit) (fun x => x) (fun (g, losses, (), (), N, mv, most, k, d, ps, bs, ps', bs', t0, t1, t2, ()) => (65 - d).toNat) (fun _ => rfl) (by kernel_rfl) (by kernel_rfl) ?_ (by kernel_rfl) ⟨K_md8, K_md10, trivial⟩ ?_
  · intro e S L' h
    unfold X_md6 at h
    split at h <;> first | (cases h; done) | (cases h; kernel_rfl) | (rcases bif_some h with h | h <;> cases h <;> kernel_rfl)
  · rintro ⟨g, losses, ⟨⟩, ⟨⟩, N, mv, most, k, d, ps, bs, ps', bs', t0, t1, t2, ⟨⟩⟩ hinv Q hQ
    refine hold_of_eq (B_md6 g losses N mv most k d ps bs ps' bs' t0 t1 t2) ?_
    obtain ⟨h0, h1, h2, hk, h5, h6⟩ := hinv
    have hr := h2.rng
    rw [W_id (n := most + 1) (by omega) (by omega), Int.sub_zero]
    simp only [Int.toNat_zero, List.drop_zero]
    have hQ' : Q (.exit 6, L_md6_0.st noU (g, losses, (), (), N, mv, (layT ps mv N k (65 - d).toNat d most (t0, t1, t2)).1, k, ps, bs, ps', bs', (layT ps mv N k (65 - d).toNat d most (t0, t1, t2)).2.1, (layT ps mv N k (65 - d).toNat d most (t0, t1, t2)).2.2.1, (layT ps mv N k (65 - d).toNat d most (t0, t1, t2)).2.2.2, ())) := hQ
    refine ⟨fun c1 => ?_, fun c1 => ?_⟩
    · have d1 : d ≤ 64 := of_decide_eq_true c1
      rw [W_id (n := d + 1) (by omega) (by omega)]
      rw [show (65 - d).toNat = (65 - (d + 1)).toNat + 1 by omega, layT] at hQ'
      have hfl := fndT_len ps mv (t0, t1, t2) k d N.toNat 0 []
      have hfr := fndT_rng (ps := ps) (mv := mv) (T := (t0, t1, t2)) (k := k) (d := d) (N := N) (by omega)
      rw [List.length_nil] at hfl
      generalize fndT ps mv (t0, t1, t2) k d N.toNat 0 [] = f at *
      have hrows := putT_rows (d := d) (f := f) hk h5
      have hm : (65 - (d + 1)).toNat < (65 - d).toNat := by omega
      have next : ∀ m' : Int, (if f.length > 0 then maxI most d else most) = m' → ¬ (f = [] ∧ d > most + 1) → 0 ≤ m' → m' ≤ 64 → roundB inv_md6 (fun (_, _, _, _, _, _, _, _, d, _) => (65 - d).toNat) O_md6 Q (g, losses, (), (), N, mv, most, k, d, ps, bs, ps', bs', t0, t1, t2, ()) (Sum.inl (g, losses, (), (), N, mv, m', k, d + 1, ps, bs, ps', bs', (setT (t0, t1, t2) k (putT d f (getT (t0, t1, t2) k))).1, (setT (t0, t1, t2) k (putT d f (getT (t0, t1, t2) k))).2.1, (setT (t0, t1, t2) k (putT d f (getT (t0, t1, t2) k))).2.2, ())) := fun m' q1 q2 q3 q4 => by
        rw [if_neg q2, q1] at hQ'
        exact ⟨⟨⟨by omega, by omega, h2, hk, hrows, q3, q4⟩, hm⟩, hQ'⟩
      have mx : 0 ≤ maxI most d ∧ maxI most d ≤ 64 := by unfold maxI; split <;> omega
      refine ⟨⟨by decide, by omega, h2, hk, h5, by decide⟩, ⟨by decide, by omega, by omega, hk, h5 k hk.1 (Int.le_refl _), hfr⟩, ⟨fun c2 => ⟨fun c3 => ?_, fun c3 => ⟨fun c4 => ?_, fun c4 => ?_⟩⟩, fun c2 => ⟨fun c5 => ?_, fun c5 => ?_⟩⟩⟩
      · have d2 : (f.length : Int) = 0 := by simpa using c2
        have d3 := of_decide_eq_true c3
        rw [if_pos ⟨List.eq_nil_of_length_eq_zero (by omega), d3⟩] at hQ'
        exact hQ'
      · have d4 := of_decide_eq_true c4
        exact next _ (if_pos (by omega)) (fun q => of_decide_eq_false c3 q.2) mx.1 mx.2
      · have d4 := of_decide_eq_false c4
        exact next _ (if_neg (by omega)) (fun q => of_decide_eq_false c3 q.2) h6.1 h6.2
      · have d4 := of_decide_eq_true c5
        have d2 : ¬ (f.length : Int) = 0 := by simpa using c2
        exact next _ (if_pos (by omega)) (fun q => d2 (by rw [q.1]; rfl)) mx.1 mx.2
      · have d4 := of_decide_eq_false c5
        have d2 : ¬ (f.length : Int) = 0 := by simpa using c2
        omega
    · have d1 : ¬ d ≤ 64 := of_decide_eq_false c1
      rw [show (65 - d).toNat = 0 by omega] at hQ'
      exact hQ'
def L_md2 : Lay := { slots := [(1, .val (.sl tPart)), (2, .val tI), (3, .ptr 4155 0), (7, .ptr 21155 0), (8, .val tI), (9, .row 44 (.sl tIs)), (11, .val tI), (12, .val tI)], boxes := [(4155, [.val tIs, .val (.sl (.pair tI (.pair tI (.pair tI tV))))]), (21155, [.val tIs, .val (.sl (.pair tI (.pair tI (.pair tI tV)))), .row 3 tI, .row 3 tI, .row 3 tI])] }
def L_md2_0 : Lay := { slots := [(7, .ptr 21155 0)], boxes := [(21155, [.val tIs, .val (.sl (.pair tI (.pair tI (.pair tI tV)))), .row 3 tI, .row 3 tI, .row 3 tI])] }
def X_md2 : Exit → St → Option Lay
  | .exit 2, _ => some L_md2_0
  | _, _ => none
abbrev C_md2 : Code := loopC (bodyOf Try.f88) 2
theorem B_md2 (g : List (Int × Int)) (losses N : Int) (mv : List (List (List Int))) (most k : Int) (ps : List Int) (bs : List (Int × (Int × (Int × V)))) (ps' : List Int) (bs' : List (Int × (Int × (Int × V)))) (t0 t1 t2 : List Int) : loopBodyA (P := P) [c_flagL] (lpOf [(4, R_md4), (6, R_md6)]) [] 155 noU (inner C_md2) L_md2 X_md2 (α := List (Int × Int) × Int × Unit × Unit × Int × List (List (List Int)) × Int × Int × List Int × List (Int × (Int × (Int × V))) × List Int × List (Int × (Int × (Int × V))) × List Int × List Int × List Int × Unit) (fun x => x) (fun x => x) (g, losses, (), (), N, mv, most, k, ps, bs, ps', bs', t0, t1, t2, ()) =
  Tree.cond (decide (k ≤ losses)) (Tree.need ((0 : Int) ≤ N ∧ N = N ∧ N ≤ (70368744177664 : Int) ∧ (↑(8 : Nat) : Int) * N ≤ (140737488355328 : Int)) (Tree.cond (decide (k = (↑(nat_lit 2) : Int))) (Tree.need ((0 : Int) ≤ (↑(nat_lit 2) : Int) ∧ (↑(nat_lit 2) : Int) < (↑(3 : Nat) : Int)) (Tree.need (inv_md4 (g, losses, (), (), N, mv, most, k, (0 : Int), ps, bs, ps', bs', t0, t1, List.replicate (Int.toNat N) (0 : Int), ())) (Tree.need (inv_md6 (g, losses, (), (), N, mv, most, k, (1 : Int), ps, bs, ps', bs', (setT (t0, t1, List.replicate (Int.toNat N) (0 : Int)) k (fillT ps g mv (Int.toNat (N - (0 : Int))) (0 : Int) (getT (t0, t1, List.replicate (Int.toNat N) (0 : Int)) k))).fst, (setT (t0, t1, List.replicate (Int.toNat N) (0 : Int)) k (fillT ps g mv (Int.toNat (N - (0 : Int))) (0 : Int) (getT (t0, t1, List.replicate (Int.toNat N) (0 : Int)) k))).snd.fst, (setT (t0, t1, List.replicate (Int.toNat N) (0 : Int)) k (fillT ps g mv (Int.toNat (N - (0 : Int))) (0 : Int) (getT (t0, t1, List.replicate (Int.toNat N) (0 : Int)) k))).snd.snd, ())) (Tree.leaf (Sum.inl (g, losses, PUnit.unit, PUnit.unit, N, mv, (layT ps mv N k (Int.toNat ((65 : Int) - (1 : Int))) (1 : Int) most (setT (t0, t1, List.replicate (Int.toNat N) (0 : Int)) k (fillT ps g mv (Int.toNat (N - (0 : Int))) (0 : Int) (getT (t0, t1, List.replicate (Int.toNat N) (0 : Int)) k)))).fst, IntKind.wrap IntKind.i64 (k + (1 : Int)), ps, bs, ps', bs', (layT ps mv N k (Int.toNat ((65 : Int) - (1 : Int))) (1 : Int) most (setT (t0, t1, List.replicate (Int.toNat N) (0 : Int)) k (fillT ps g mv (Int.toNat (N - (0 : Int))) (0 : Int) (getT (t0, t1, List.replicate (Int.toNat N) (0 : Int)) k)))).snd.fst, (layT ps mv N k (Int.toNat ((65 : Int) - (1 : Int))) (1 : Int) most (setT (t0, t1, List.replicate (Int.toNat N) (0 : Int)) k (fillT ps g mv (Int.toNat (N - (0 : Int))) (0 : Int) (getT (t0, t1, List.replicate (Int.toNat N) (0 : Int)) k)))).snd.snd.fst, (layT ps mv N k (Int.toNat ((65 : Int) - (1 : Int))) (1 : Int) most (setT (t0, t1, List.replicate (Int.toNat N) (0 : Int)) k (fillT ps g mv (Int.toNat (N - (0 : Int))) (0 : Int) (getT (t0, t1, List.replicate (Int.toNat N) (0 : Int)) k)))).snd.snd.snd, PUnit.unit)))))) (Tree.cond (decide (k = (↑(nat_lit 1) : Int))) (Tree.need ((0 : Int) ≤ (↑(nat_lit 1) : Int) ∧ (↑(nat_lit 1) : Int) < (↑(3 : Nat) : Int)) (Tree.need (inv_md4 (g, losses, (), (), N, mv, most, k, (0 : Int), ps, bs, ps', bs', t0, List.replicate (Int.toNat N) (0 : Int), t2, ())) (Tree.need (inv_md6 (g, losses, (), (), N, mv, most, k, (1 : Int), ps, bs, ps', bs', (setT (t0, List.replicate (Int.toNat N) (0 : Int), t2) k (fillT ps g mv (Int.toNat (N - (0 : Int))) (0 : Int) (getT (t0, List.replicate (Int.toNat N) (0 : Int), t2) k))).fst, (setT (t0, List.replicate (Int.toNat N) (0 : Int), t2) k (fillT ps g mv (Int.toNat (N - (0 : Int))) (0 : Int) (getT (t0, List.replicate (Int.toNat N) (0 : Int), t2) k))).snd.fst, (setT (t0, List.replicate (Int.toNat N) (0 : Int), t2) k (fillT ps g mv (Int.toNat (N - (0 : Int))) (0 : Int) (getT (t0, List.replicate (Int.toNat N) (0 : Int), t2) k))).snd.snd, ())) (Tree.leaf (Sum.inl (g, losses, PUnit.unit, PUnit.unit, N, mv, (layT ps mv N k (Int.toNat ((65 : Int) - (1 : Int))) (1 : Int) most (setT (t0, List.replicate (Int.toNat N) (0 : Int), t2) k (fillT ps g mv (Int.toNat (N - (0 : Int))) (0 : Int) (getT (t0, List.replicate (Int.toNat N) (0 : Int), t2) k)))).fst, IntKind.wrap IntKind.i64 (k + (1 : Int)), ps, bs, ps', bs', (layT ps mv N k (Int.toNat ((65 : Int) - (1 : Int))) (1 : Int) most (setT (t0, List.replicate (Int.toNat N) (0 : Int), t2) k (fillT ps g mv (Int.toNat (N - (0 : Int))) (0 : Int) (getT (t0, List.replicate (Int.toNat N) (0 : Int), t2) k)))).snd.fst, (layT ps mv N k (Int.toNat ((65 : Int) - (1 : Int))) (1 : Int) most (setT (t0, List.replicate (Int.toNat N) (0 : Int), t2) k (fillT ps g mv (Int.toNat (N - (0 : Int))) (0 : Int) (getT (t0, List.replicate (Int.toNat N) (0 : Int), t2) k)))).snd.snd.fst, (layT ps mv N k (Int.toNat ((65 : Int) - (1 : Int))) (1 : Int) most (setT (t0, List.replicate (Int.toNat N) (0 : Int), t2) k (fillT ps g mv (Int.toNat (N - (0 : Int))) (0 : Int) (getT (t0, List.replicate (Int.toNat N) (0 : Int), t2) k)))).snd.snd.snd, PUnit.unit)))))) (Tree.cond (decide (k = (↑(nat_lit 0) : Int))) (Tree.need ((0 : Int) ≤ (↑(nat_lit 0) : Int) ∧ (↑(nat_lit 0) : Int) < (↑(3 : Nat) : Int)) (Tree.need (inv_md4 (g, losses, (), (), N, mv, most, k, (0 : Int), ps, bs, ps', bs', List.replicate (Int.toNat N) (0 : Int), t1, t2, ())) (Tree.need (inv_md6 (g, losses, (), (), N, mv, most, k, (1 : Int), ps, bs, ps', bs', (setT (List.replicate (Int.toNat N) (0 : Int), t1, t2) k (fillT ps g mv (Int.toNat (N - (0 : Int))) (0 : Int) (getT (List.replicate (Int.toNat N) (0 : Int), t1, t2) k))).fst, (setT (List.replicate (Int.toNat N) (0 : Int), t1, t2) k (fillT ps g mv (Int.toNat (N - (0 : Int))) (0 : Int) (getT (List.replicate (Int.toNat N) (0 : Int), t1, t2) k))).snd.fst, (setT (List.replicate (Int.toNat N) (0 : Int), t1, t2) k (fillT ps g mv (Int.toNat (N - (0 : Int))) (0 : Int) (getT (List.replicate (Int.toNat N) (0 : Int), t1, t2) k))).snd.snd, ())) (Tree.leaf (Sum.inl (g, losses, PUnit.unit, PUnit.unit, N, mv, (layT ps mv N k (Int.toNat ((65 : Int) - (1 : Int))) (1 : Int) most (setT (List.replicate (Int.toNat N) (0 : Int), t1, t2) k (fillT ps g mv (Int.toNat (N - (0 : Int))) (0 : Int) (getT (List.replicate (Int.toNat N) (0 : Int), t1, t2) k)))).fst, IntKind.wrap IntKind.i64 (k + (1 : Int)), ps, bs, ps', bs', (layT ps mv N k (Int.toNat ((65 : Int) - (1 : Int))) (1 : Int) most (setT (List.replicate (Int.toNat N) (0 : Int), t1, t2) k (fillT ps g mv (Int.toNat (N - (0 : Int))) (0 : Int) (getT (List.replicate (Int.toNat N) (0 : Int), t1, t2) k)))).snd.fst, (layT ps mv N k (Int.toNat ((65 : Int) - (1 : Int))) (1 : Int) most (setT (List.replicate (Int.toNat N) (0 : Int), t1, t2) k (fillT ps g mv (Int.toNat (N - (0 : Int))) (0 : Int) (getT (List.replicate (Int.toNat N) (0 : Int), t1, t2) k)))).snd.snd.fst, (layT ps mv N k (Int.toNat ((65 : Int) - (1 : Int))) (1 : Int) most (setT (List.replicate (Int.toNat N) (0 : Int), t1, t2) k (fillT ps g mv (Int.toNat (N - (0 : Int))) (0 : Int) (getT (List.replicate (Int.toNat N) (0 : Int), t1, t2) k)))).snd.snd.snd, PUnit.unit)))))) (Tree.fail (31 : Nat)))))) (Tree.leaf (Sum.inr (Exit.exit (2 : Nat), Lay.st L_md2_0 noU (PUnit.unit, ps', bs', t0, t1, t2, PUnit.unit)))) := by kernel_rfl
def inv_md2 : List (Int × Int) × Int × Unit × Unit × Int × List (List (List Int)) × Int × Int × List Int × List (Int × (Int × (Int × V))) × List Int × List (Int × (Int × (Int × V))) × List Int × List Int × List Int × Unit → Prop := fun (g, losses, (), (), N, mv, most, k, ps, bs, ps', bs', t0, t1, t2, ()) => 0 ≤ k ∧ k ≤ losses + 1 ∧ losses ≤ 2 ∧ TabI ps bs ps' bs' g N mv ∧ RowsK (t0, t1, t2) (k - 1) N ∧ (0 ≤ most ∧ most ≤ 64)
def O_md2 : List (Int × Int) × Int × Unit × Unit × Int × List (List (List Int)) × Int × Int × List Int × List (Int × (Int × (Int × V))) × List Int × List (Int × (Int × (Int × V))) × List Int × List Int × List Int × Unit → Tree (Exit × St) := fun (g, losses, (), (), N, mv, most, k, ps, bs, ps', bs', t0, t1, t2, ()) => (.leaf (.exit 2, L_md2_0.st noU ((), ps', bs', ((madT ps g mv N (losses + 1 - k).toNat k most (t0, t1, t2)).1), ((madT ps g mv N (losses + 1 - k).toNat k most (t0, t1, t2)).2.1), ((madT ps g mv N (losses + 1 - k).toNat k most (t0, t1, t2)).2.2), ())))
def R_md2 : LRun := runOf 155 L_md2 (fun x => x) (inv_md2) (O_md2)
theorem K_md2 : LoopOk P [] 155 none noU C_md2 (R_md2) := by
  refine loop_of hm (cx := [c_flagL]) [(4, R_md4), (6, R_md6)] (xl := X_md2) (α := List (Int × Int) × Int × Unit × Unit × Int × List (List (List Int)) × Int × Int × List Int × List (Int × (Int × (Int × V))) × List Int × List (Int × (Int × (Int × V))) × List Int × List Int × List Int × Unit) (fun x => x) (fun (g, losses, (), (), N, mv, most, k, ps, bs, ps', bs', t0, t1, t2, ()) => (losses + 1 - k).toNat) (fun _ => rfl) (by kernel_rfl) (by kernel_rfl) ?_ (by kernel_rfl) ⟨K_md4, K_md6, trivial⟩ ?_
  · intro e S L' h
    unfold X_md2 at h
    split at h <;> first | (cases h; done) | (cases h; kernel_rfl) | (rcases bif_some h with h | h <;> cases h <;> kernel_rfl)
  · rintro ⟨g, losses, ⟨⟩, ⟨⟩, N, mv, most, k, ps, bs, ps', bs', t0, t1, t2, ⟨⟩⟩ hinv Q hQ
    refine hold_of_eq (B_md2 g losses N mv most k ps bs ps' bs' t0 t1 t2) ?_
    obtain ⟨h0, h1, h2, h3, h4, h5⟩ := hinv
    have hr := h3.rng
    have hQ' : Q (.exit 2, L_md2_0.st noU ((), ps', bs', (madT ps g mv N (losses + 1 - k).toNat k most (t0, t1, t2)).1, (madT ps g mv N (losses + 1 - k).toNat k most (t0, t1, t2)).2.1, (madT ps g mv N (losses + 1 - k).toNat k most (t0, t1, t2)).2.2, ())) := hQ
    refine ⟨fun c1 => ?_, fun c1 => ?_⟩
    · have d1 : k ≤ losses := of_decide_eq_true c1
      rw [W_id (n := k + 1) (by omega) (by omega), Int.sub_zero, show ((65 : Int) - 1).toNat = 64 from rfl]
      rw [show (losses + 1 - k).toNat = (losses + 1 - (k + 1)).toNat + 1 by omega, madT] at hQ'
      have hk : 0 ≤ k ∧ k ≤ 2 := ⟨h0, by omega⟩
      have hrows : RowsK (row0 ps g mv N k (t0, t1, t2)) k N := rows_set hk h4 (by rw [fillT_len, List.length_replicate]; omega)
      have hlr := layT_rows (ps := ps) (mv := mv) hk 64 1 most _ hrows
      have hlm := layT_most (ps := ps) (mv := mv) (N := N) (k := k) 64 1 most (row0 ps g mv N k (t0, t1, t2)) (by decide) (by decide) h5.1 h5.2
      rw [show k = k + 1 - 1 by omega] at hlr
      refine ⟨⟨by omega, rfl, by omega, by omega⟩, ⟨fun c2 => ?_, fun c2 => ⟨fun c3 => ?_, fun c3 => ⟨fun c4 => ?_, fun c4 => ?_⟩⟩⟩⟩
      · have d2 : k = 2 := of_decide_eq_true c2
        subst d2
        have eR : setT (t0, t1, List.replicate N.toNat 0) 2 (fillT ps g mv N.toNat 0 (getT (t0, t1, List.replicate N.toNat 0) 2)) = row0 ps g mv N 2 (t0, t1, t2) := rfl
        rw [eR]
        exact ⟨⟨by decide, by decide⟩, ⟨by decide, by omega, h3, ⟨by decide, by decide⟩, by show ((List.replicate N.toNat (0 : Int)).length : Int) = N; rw [List.length_replicate]; omega⟩, ⟨by decide, by decide, h3, ⟨by decide, by decide⟩, hrows, h5⟩, ⟨⟨by decide, by omega, h2, h3, hlr, hlm⟩, by show (losses + 1 - (2 + 1)).toNat < (losses + 1 - 2).toNat; omega⟩, hQ'⟩
      · have d2 : k = 1 := of_decide_eq_true c3
        subst d2
        have eR : setT (t0, List.replicate N.toNat 0, t2) 1 (fillT ps g mv N.toNat 0 (getT (t0, List.replicate N.toNat 0, t2) 1)) = row0 ps g mv N 1 (t0, t1, t2) := rfl
        rw [eR]
        exact ⟨⟨by decide, by decide⟩, ⟨by decide, by omega, h3, ⟨by decide, by decide⟩, by show ((List.replicate N.toNat (0 : Int)).length : Int) = N; rw [List.length_replicate]; omega⟩, ⟨by decide, by decide, h3, ⟨by decide, by decide⟩, hrows, h5⟩, ⟨⟨by decide, by omega, h2, h3, hlr, hlm⟩, by show (losses + 1 - (1 + 1)).toNat < (losses + 1 - 1).toNat; omega⟩, hQ'⟩
      · have d2 : k = 0 := of_decide_eq_true c4
        subst d2
        have eR : setT (List.replicate N.toNat 0, t1, t2) 0 (fillT ps g mv N.toNat 0 (getT (List.replicate N.toNat 0, t1, t2) 0)) = row0 ps g mv N 0 (t0, t1, t2) := rfl
        rw [eR]
        exact ⟨⟨by decide, by decide⟩, ⟨by decide, by omega, h3, ⟨by decide, by decide⟩, by show ((List.replicate N.toNat (0 : Int)).length : Int) = N; rw [List.length_replicate]; omega⟩, ⟨by decide, by decide, h3, ⟨by decide, by decide⟩, hrows, h5⟩, ⟨⟨by decide, by omega, h2, h3, hlr, hlm⟩, by show (losses + 1 - (0 + 1)).toNat < (losses + 1 - 0).toNat; omega⟩, hQ'⟩
      · exfalso
        have d2 : ¬ k = 2 := of_decide_eq_false c2
        have d8 : ¬ k = 1 := of_decide_eq_false c3
        have d14 : ¬ k = 0 := of_decide_eq_false c4
        omega
    · have d1 : ¬ k ≤ losses := of_decide_eq_false c1
      rw [show (losses + 1 - k).toNat = 0 by omega] at hQ'
      exact hQ'
def L_made : Lay := { slots := [(0, .agg (.pair tIs (.sl (.pair tI (.pair tI (.pair tI tV)))))), (1, .val (.sl tPart)), (2, .val tI)] }
theorem T_made (ps : List Int) (bs : List (Int × (Int × (Int × V)))) (g : List (Int × Int)) (losses : Int) : mTree (P := P) [c_rmany.gc, c_flagL] (lpOf [(0, R_md0), (2, R_md2)]) Try.f88 L_made true ((ps, bs), g, losses, ()) =
  Tree.need (List.length ps ≤ (1000 : Nat)) (Tree.need ((0 : Int) ≤ manyW ps (1 : Int) ∧ manyW ps (1 : Int) = manyW ps (1 : Int) ∧ manyW ps (1 : Int) ≤ (70368744177664 : Int) ∧ (↑(24 : Nat) : Int) * manyW ps (1 : Int) ≤ (140737488355328 : Int)) (Tree.need (inv_md0 (g, losses, (), (), manyW ps (1 : Int), List.replicate (Int.toNat (manyW ps (1 : Int))) [], (0 : Int), ps, bs, ps, bs, [], [], [], ())) (Tree.need (inv_md2 (g, losses, (), (), manyW ps (1 : Int), mvsT ps bs (Int.toNat (manyW ps (1 : Int) - (0 : Int))) (0 : Int) (List.replicate (Int.toNat (manyW ps (1 : Int))) []), (0 : Int), (0 : Int), ps, bs, ps, bs, [], [], [], ())) (Tree.leaf { res := SV.ptr (nat_lit 100) (0 : Nat), boxes := [], news := [Ob.box [SV.sl tI ps, SV.sl (Ty.pair tI (Ty.pair tI (Ty.pair tI tV))) bs, SV.sl tI (madT ps g (mvsT ps bs (Int.toNat (manyW ps (1 : Int) - (0 : Int))) (0 : Int) (List.replicate (Int.toNat (manyW ps (1 : Int))) [])) (manyW ps (1 : Int)) (Int.toNat (losses + (1 : Int) - (0 : Int))) (0 : Int) (0 : Int) ([], [], [])).fst, SV.sl tI (madT ps g (mvsT ps bs (Int.toNat (manyW ps (1 : Int) - (0 : Int))) (0 : Int) (List.replicate (Int.toNat (manyW ps (1 : Int))) [])) (manyW ps (1 : Int)) (Int.toNat (losses + (1 : Int) - (0 : Int))) (0 : Int) (0 : Int) ([], [], [])).snd.fst, SV.sl tI (madT ps g (mvsT ps bs (Int.toNat (manyW ps (1 : Int) - (0 : Int))) (0 : Int) (List.replicate (Int.toNat (manyW ps (1 : Int))) [])) (manyW ps (1 : Int)) (Int.toNat (losses + (1 : Int) - (0 : Int))) (0 : Int) (0 : Int) ([], [], [])).snd.snd]] })))) := by kernel_rfl
def c_made : MC P := MC.of (α := (List Int × List (Int × (Int × (Int × V)))) × List (Int × Int) × Int × Unit) 88 L_made (fun x => x) (fun x => x) (fun _ => rfl)
  (fun x => some (checkS (x.1.1, x.1.2) = 0 ∧ x.2.1.length = x.1.1.length ∧ 0 ≤ x.2.2.1 ∧ x.2.2.1 ≤ 2))
  (fun x => ⟨.ptr 100 0, [], [.box [.sl tI x.1.1, .sl tBan x.1.2, .sl tI (madeT x.1.1 x.1.2 x.2.1 x.2.2.1).1, .sl tI (madeT x.1.1 x.1.2 x.2.1 x.2.2.1).2.1, .sl tI (madeT x.1.1 x.1.2 x.2.1 x.2.2.1).2.2]]⟩) (by kernel_rfl) (by kernel_rfl) (by kernel_rfl) (by
    rintro ⟨⟨ps, bs⟩, g, losses, ⟨⟩⟩ hp
    refine m_of hm (own := true) (by kernel_rfl) (by kernel_rfl) (by kernel_rfl) (T_made ps bs g losses) ⟨K_md0, K_md2, trivial⟩ ?_
    try dsimp only at hp
    try dsimp only
    obtain ⟨p1, p2, p3, p4⟩ : checkS (ps, bs) = 0 ∧ g.length = ps.length ∧ 0 ≤ losses ∧ losses ≤ 2 := hp
    obtain ⟨k1, k2, k3, k4, k5⟩ := checkS_ok p1
    dsimp only at k1 k2 k3
    have hrg : RgOk ps bs := ⟨k1, k2, k3⟩
    have hpr := hrg.pr
    have hmn := hrg.many
    rw [Int.sub_zero, Int.sub_zero]
    have hml : ((mvs0 ps bs).length : Int) = manyW ps 1 := by
      unfold mvs0
      rw [mvsT_len, List.length_replicate]; omega
    exact ⟨by omega, ⟨by omega, rfl, by omega, by omega⟩, ⟨by decide, by omega, hmn, p1, by rw [List.length_replicate]; omega⟩, ⟨by decide, by omega, p4, ⟨rfl, rfl, p1, p2, hmn, hml, fun n q0 q1 => mvs0_get hrg q0 (by omega)⟩, fun l q0 q1 => by omega, by decide⟩, rfl⟩)
end
end Go.MR
