/- RigSafe: no collision. -/
import Derived.Test.YtmolckndbmjgfaaMrW
namespace Go.MR
open Go Go.Sx Go.Proofs
set_option linter.unusedVariables false
set_option linter.unusedSimpArgs false
noncomputable section

def hitB (a p b q : Int) (x : Ban) : Bool := x.1 == a && (x.2.2.2.1 == b && (decide (x.2.1 ≤ p) && (decide (p ≤ x.2.2.1) && (decide (x.2.2.2.2.1 ≤ q) && decide (q ≤ x.2.2.2.2.2)))))
theorem hitB_step {f : Ban → Bool} {l : List Ban} {i : Int} (h0 : 0 ≤ i) (h : i < l.length) : (l.drop i.toNat).any f = (f (l.getD i.toNat (0, 0, 0, 0, 0, 0)) || (l.drop (i + 1).toNat).any f) := by
  rw [drop_step ((0, 0, 0, 0, 0, 0) : Ban) h0 h, List.any_cons]
def L_hit0 : Lay := { slots := [(1, .val tI), (2, .val tI), (3, .val tI), (4, .val tI), (5, .ptr 6059 0), (11, .val tI)], boxes := [(6059, [.val tIs, .val (.sl (.pair tI (.pair tI (.pair tI tV))))])] }
def L_hit0_0 : Lay := { slots := [(10, .val .bool)] }
def L_hit0_1 : Lay := { slots := [] }
def X_hit0 : Exit → St → Option Lay
  | .ret, _ => some L_hit0_0
  | .exit 0, _ => some L_hit0_1
  | _, _ => none
abbrev C_hit0 : Code := loopC (bodyOf Try.f52) 0
theorem B_hit0 (a p b q i : Int) (ps : List Int) (bs : List (Int × (Int × (Int × V)))) : loopBodyA (P := P) [] (lpOf []) [] 59 noU (inner C_hit0) L_hit0 X_hit0 (α := Int × Int × Int × Int × Unit × Int × List Int × List (Int × (Int × (Int × V))) × Unit) (fun x => x) (fun x => x) (a, p, b, q, (), i, ps, bs, ()) =
  Tree.cond (decide (i < (↑(List.length bs) : Int))) (Tree.need ((0 : Int) ≤ i ∧ i < (↑(List.length bs) : Int)) (Tree.cond ((List.getD bs (Int.toNat i) ((0 : Int), (0 : Int), (0 : Int), (0 : Int), (0 : Int), (0 : Int))).fst == a) (Tree.cond ((List.getD bs (Int.toNat i) ((0 : Int), (0 : Int), (0 : Int), (0 : Int), (0 : Int), (0 : Int))).snd.snd.snd.fst == b) (Tree.cond (decide ((List.getD bs (Int.toNat i) ((0 : Int), (0 : Int), (0 : Int), (0 : Int), (0 : Int), (0 : Int))).snd.fst ≤ p)) (Tree.cond (decide (p ≤ (List.getD bs (Int.toNat i) ((0 : Int), (0 : Int), (0 : Int), (0 : Int), (0 : Int), (0 : Int))).snd.snd.fst)) (Tree.cond (decide ((List.getD bs (Int.toNat i) ((0 : Int), (0 : Int), (0 : Int), (0 : Int), (0 : Int), (0 : Int))).snd.snd.snd.snd.fst ≤ q)) (Tree.cond (decide (q ≤ (List.getD bs (Int.toNat i) ((0 : Int), (0 : Int), (0 : Int), (0 : Int), (0 : Int), (0 : Int))).snd.snd.snd.snd.snd)) (Tree.leaf (Sum.inr (Exit.ret, Lay.st L_hit0_0 noU (true, PUnit.unit)))) (Tree.leaf (Sum.inl (a, p, b, q, PUnit.unit, IntKind.wrap IntKind.i64 (i + (1 : Int)), ps, bs, PUnit.unit)))) (Tree.leaf (Sum.inl (a, p, b, q, PUnit.unit, IntKind.wrap IntKind.i64 (i + (1 : Int)), ps, bs, PUnit.unit)))) (Tree.leaf (Sum.inl (a, p, b, q, PUnit.unit, IntKind.wrap IntKind.i64 (i + (1 : Int)), ps, bs, PUnit.unit)))) (Tree.leaf (Sum.inl (a, p, b, q, PUnit.unit, IntKind.wrap IntKind.i64 (i + (1 : Int)), ps, bs, PUnit.unit)))) (Tree.leaf (Sum.inl (a, p, b, q, PUnit.unit, IntKind.wrap IntKind.i64 (i + (1 : Int)), ps, bs, PUnit.unit)))) (Tree.leaf (Sum.inl (a, p, b, q, PUnit.unit, IntKind.wrap IntKind.i64 (i + (1 : Int)), ps, bs, PUnit.unit))))) (Tree.leaf (Sum.inr (Exit.exit (0 : Nat), Lay.st L_hit0_1 noU PUnit.unit))) := by kernel_rfl

def inv_hit0 : Int × Int × Int × Int × Unit × Int × List Int × List (Int × (Int × (Int × V))) × Unit → Prop := fun (a, p, b, q, (), i, ps, bs, ()) => 0 ≤ i ∧ i ≤ bs.length ∧ (bs.length : Int) ≤ 1000
def O_hit0 : Int × Int × Int × Int × Unit × Int × List Int × List (Int × (Int × (Int × V))) × Unit → Tree (Exit × St) := fun (a, p, b, q, (), i, ps, bs, ()) => .cond ((bs.drop i.toNat).any (hitB a p b q)) (.leaf (.ret, L_hit0_0.st noU ((true), ()))) (.leaf (.exit 0, L_hit0_1.st noU ()))
def R_hit0 : LRun := runOf 59 L_hit0 (fun x => x) (inv_hit0) (O_hit0)
theorem K_hit0 : LoopOk P [] 59 none noU C_hit0 (R_hit0) := by
  refine loop_of hm (cx := []) [] (xl := X_hit0) (α := Int × Int × Int × Int × Unit × Int × List Int × List (Int × (Int × (Int × V))) × Unit) (fun x => x) (fun (a, p, b, q, (), i, ps, bs, ()) => ((bs.length : Int) - i).toNat) (fun _ => rfl) (by kernel_rfl) (by kernel_rfl) ?_ (by kernel_rfl) trivial ?_
  · intro e S L' h
    unfold X_hit0 at h
    split at h <;> first | (cases h; done) | (cases h; kernel_rfl) | (rcases bif_some h with h | h <;> cases h <;> kernel_rfl)
  · rintro ⟨a, p, b, q, ⟨⟩, i, ps, bs, ⟨⟩⟩ hinv Q hQ
    refine hold_of_eq (B_hit0 a p b q i ps bs) ?_

    obtain ⟨h0, h1, h2⟩ := hinv
    rw [W_id (n := i + 1) (by omega) (by omega)]
    unfold O_hit0 at hQ
    dsimp only at hQ
    refine ⟨fun c1 => ?_, fun c1 => ?_⟩
    · have d1 := of_decide_eq_true c1
      have hm : ((bs.length : Int) - (i + 1)).toNat < ((bs.length : Int) - i).toNat := by omega
      rw [hitB_step h0 d1] at hQ
      generalize bs.getD i.toNat (0, 0, 0, 0, 0, 0) = x at *
      refine ⟨⟨h0, d1⟩, fun c2 => ⟨fun c3 => ⟨fun c4 => ⟨fun c5 => ⟨fun c6 => ⟨fun c7 => ?_, fun c7 => ?_⟩, fun c6 => ?_⟩, fun c5 => ?_⟩, fun c4 => ?_⟩, fun c3 => ?_⟩, fun c2 => ?_⟩
      · have hg : hitB a p b q x = true := by
          unfold hitB
          rw [show (x.1 == a) = true from c2, show (x.2.2.2.1 == b) = true from c3, show decide (x.2.1 ≤ p) = true from c4, show decide (p ≤ x.2.2.1) = true from c5, show decide (x.2.2.2.2.1 ≤ q) = true from c6, show decide (q ≤ x.2.2.2.2.2) = true from c7]
          rfl
        rw [hg, Bool.true_or] at hQ
        exact hQ.1 rfl
      all_goals
        have hg : hitB a p b q x = false := by
          unfold hitB
          first
            | rw [show decide (q ≤ x.2.2.2.2.2) = false from c7]; simp only [Bool.and_false]
            | rw [show decide (x.2.2.2.2.1 ≤ q) = false from c6]; simp only [Bool.false_and, Bool.and_false]
            | rw [show decide (p ≤ x.2.2.1) = false from c5]; simp only [Bool.false_and, Bool.and_false]
            | rw [show decide (x.2.1 ≤ p) = false from c4]; simp only [Bool.false_and, Bool.and_false]
            | rw [show (x.2.2.2.1 == b) = false from c3]; simp only [Bool.false_and, Bool.and_false]
            | rw [show (x.1 == a) = false from c2]; simp only [Bool.false_and, Bool.and_false]
        rw [hg, Bool.false_or] at hQ
        exact ⟨⟨⟨by omega, by omega, h2⟩, hm⟩, hQ⟩
    · have d1 := of_decide_eq_false c1
      rw [drop_end d1] at hQ
      exact hQ.2 rfl
theorem T_hit (s0_0 : List Int) (s0_1 : List (Int × (Int × (Int × V)))) (a p b q : Int) : fnTree (P := P) [] (lpOf [(0, R_hit0)]) Try.f52 (encL 0 [.agg (.pair tIs (.sl (.pair tI (.pair tI (.pair tI tV))))), .val tI, .val tI, .val tI, .val tI] ((s0_0, s0_1), a, p, b, q, ())) =
  Tree.need (inv_hit0 (a, p, b, q, (), (0 : Int), s0_0, s0_1, ())) (Tree.cond (List.any (List.drop (Int.toNat (0 : Int)) s0_1) (hitB a p b q)) (Tree.leaf (SV.bool true)) (Tree.leaf (SV.bool false))) := by kernel_rfl

def c_hit : PC P := PC.of (α := (List Int × List (Int × (Int × (Int × V)))) × Int × Int × Int × Int × Unit) 52 [.agg (.pair tIs (.sl (.pair tI (.pair tI (.pair tI tV))))), .val tI, .val tI, .val tI, .val tI] (fun x => x) (fun x => x) (fun _ => rfl)
  (fun x => some ((x.1.2.length : Int) ≤ 1000))
  (fun x => .bool (x.1.2.any (hitB x.2.1 x.2.2.1 x.2.2.2.1 x.2.2.2.2.1))) (by kernel_rfl) (by
    rintro ⟨⟨s0_0, s0_1⟩, a, p, b, q, ⟨⟩⟩ hp
    refine fn_of hm (by kernel_rfl) (by kernel_rfl) (T_hit s0_0 s0_1 a p b q) ⟨K_hit0, trivial⟩ ?_

    try dsimp only at hp
    try dsimp only
    have hp' : (s0_1.length : Int) ≤ 1000 := hp
    refine ⟨⟨by decide, by omega, hp'⟩, fun c => ?_, fun c => ?_⟩
    · simp only [Int.toNat_zero, List.drop_zero] at c
      exact congrArg SV.bool c.symm
    · simp only [Int.toNat_zero, List.drop_zero] at c
      exact congrArg SV.bool c.symm)
def lostR (l : List Int) : Nat → Int → Int → List Int
  | 0, _, _ => []
  | n + 1, i, k => if rnS l k 3 = 0 then i :: lostR l n (i + 1) (k + 1) else lostR l n (i + 1) (k + 1)
theorem lostR_rng (l : List Int) : ∀ (n : Nat) (i k : Int), ∀ x ∈ lostR l n i k, i ≤ x ∧ x < i + n
  | 0, _, _, x, hx => by cases hx
  | n + 1, i, k, x, hx => by
    rw [lostR] at hx
    split at hx
    · rcases List.mem_cons.1 hx with rfl | hx
      · omega
      · have := lostR_rng l n (i + 1) (k + 1) x hx; omega
    · have := lostR_rng l n (i + 1) (k + 1) x hx; omega
/-- At no places of a tick a ban. -/
def Cl (ps : List Int) (bs : List Ban) (s t : List Int) : Prop := ∀ a b : Nat, a < ps.length → b < ps.length → ∀ p q : Int, (p = s.getD a 0 ∨ p = t.getD a 0) → (q = s.getD b 0 ∨ q = t.getD b 0) → bs.any (hitB a p b q) = false
theorem cl_of {r : Rig} {s m t : List Int} (h : Sf r s) (hl : m.length = r.1.length) (hm : isM m) (ho : okM r.1 r.2 s m = true) (hp : ∀ i : Nat, i < r.1.length → t.getD i 0 = s.getD i 0 + m.getD i 0 ∨ t.getD i 0 = s.getD i 0) : Cl r.1 r.2 s t := by
  intro a b ha hb p q h1 h2
  obtain ⟨o1, o2⟩ := (okM_iff h.pb h.vs hm hl h.ob).1 ho
  cases e : r.2.any (hitB a p b q) with
  | false => rfl
  | true =>
    rw [List.any_eq_true] at e
    obtain ⟨x, hx, hh⟩ := e
    have hq := o2 x hx
    unfold hitB at hh
    simp only [Bool.and_eq_true, beq_iff_eq, decide_eq_true_eq] at hh
    obtain ⟨e1, e2, e3, e4, e5, e6⟩ := hh
    unfold banP meetS wi at hq
    dsimp only at hq
    rw [e1, e2, Int.toNat_natCast, Int.toNat_natCast] at hq
    have p1 : p = s.getD a 0 ∨ p = s.getD a 0 + m.getD a 0 := by
      rcases h1 with h1 | h1
      · exact .inl h1
      · rcases hp a ha with e | e
        · exact .inr (h1.trans e)
        · exact .inl (h1.trans e)
    have q1 : q = s.getD b 0 ∨ q = s.getD b 0 + m.getD b 0 := by
      rcases h2 with h2 | h2
      · exact .inl h2
      · rcases hp b hb with e | e
        · exact .inr (h2.trans e)
        · exact .inl (h2.trans e)
    have f1 : (decide (x.2.1 ≤ s.getD a 0) && decide (s.getD a 0 ≤ x.2.2.1) || decide (x.2.1 ≤ s.getD a 0 + m.getD a 0) && decide (s.getD a 0 + m.getD a 0 ≤ x.2.2.1)) = true := by
      rcases p1 with e | e
      · rw [← e, decide_eq_true e3, decide_eq_true e4]; rfl
      · rw [← e, decide_eq_true e3, decide_eq_true e4, Bool.and_true, Bool.or_true]
    have f2 : (decide (x.2.2.2.2.1 ≤ s.getD b 0) && decide (s.getD b 0 ≤ x.2.2.2.2.2) || decide (x.2.2.2.2.1 ≤ s.getD b 0 + m.getD b 0) && decide (s.getD b 0 + m.getD b 0 ≤ x.2.2.2.2.2)) = true := by
      rcases q1 with e | e
      · rw [← e, decide_eq_true e5, decide_eq_true e6]; rfl
      · rw [← e, decide_eq_true e5, decide_eq_true e6, Bool.and_true, Bool.or_true]
    rw [f1, f2] at hq
    cases hq
def L_sf2 : Lay := { slots := [(1, .val tIs), (5, .ptr 19154 0), (6, .ptr 7154 0), (7, .val tIs), (8, .val tI), (10, .val tIs), (11, .row 3 tI), (12, .val tI)], boxes := [(7154, [.val tIs, .val (.sl (.pair tI (.pair tI (.pair tI tV))))]), (19154, [.val tIs, .val tI])] }
def L_sf2_0 : Lay := { slots := [(1, .val tIs), (5, .ptr 19154 0), (6, .ptr 7154 0), (7, .val tIs), (8, .val tI), (10, .val tIs), (11, .row 3 tI)], boxes := [(7154, [.val tIs, .val (.sl (.pair tI (.pair tI (.pair tI tV))))]), (19154, [.val tIs, .val tI])] }
def X_sf2 : Exit → St → Option Lay
  | .exit 2, _ => some L_sf2_0
  | _, _ => none
abbrev C_sf2 : Code := loopC (inner (loopC (bodyOf Try.f9) 0)) 2
theorem B_sf2 (pk s : List Int) (k : Int) (m lost : List Int) (i : Int) (ps : List Int) (bs : List (Int × (Int × (Int × V)))) (l : List Int) (o : Int) : loopBodyA (P := P) [c_RNext.gc] (lpOf []) [] 154 noU (inner C_sf2) L_sf2 X_sf2 (α := List Int × Unit × Unit × List Int × Int × List Int × List Int × Int × List Int × List (Int × (Int × (Int × V))) × List Int × Int × Unit) (fun x => x) (fun x => x) (pk, (), (), s, k, m, lost, i, ps, bs, l, o, ()) =
  Tree.cond (decide (i < (↑(List.length s) : Int))) (Tree.need ((0 : Int) ≤ o ∧ o < (1099511627776 : Int) ∧ (0 : Int) < (3 : Int)) (Tree.cond (rnS l o (3 : Int) == (0 : Int)) (Tree.need ((List.length lost + List.length [i]) * (8 : Nat) ≤ (140737488355328 : Nat)) (Tree.leaf (Sum.inl (pk, PUnit.unit, PUnit.unit, s, k, m, lost ++ [i], IntKind.wrap IntKind.i64 (i + (1 : Int)), ps, bs, l, o + (1 : Int), PUnit.unit)))) (Tree.leaf (Sum.inl (pk, PUnit.unit, PUnit.unit, s, k, m, lost, IntKind.wrap IntKind.i64 (i + (1 : Int)), ps, bs, l, o + (1 : Int), PUnit.unit))))) (Tree.leaf (Sum.inr (Exit.exit (2 : Nat), Lay.st L_sf2_0 noU (pk, PUnit.unit, PUnit.unit, s, k, m, lost, ps, bs, l, o, PUnit.unit)))) := by kernel_rfl

def inv_sf2 : List Int × Unit × Unit × List Int × Int × List Int × List Int × Int × List Int × List (Int × (Int × (Int × V))) × List Int × Int × Unit → Prop := fun (pk, (), (), s, k, m, lost, i, ps, bs, l, o, ()) => 0 ≤ i ∧ i ≤ s.length ∧ s.length ≤ 4 ∧ 0 ≤ o ∧ o + ((s.length : Int) - i) ≤ 1000000000 ∧ (lost.length : Int) ≤ i
def O_sf2 : List Int × Unit × Unit × List Int × Int × List Int × List Int × Int × List Int × List (Int × (Int × (Int × V))) × List Int × Int × Unit → Tree (Exit × St) := fun (pk, (), (), s, k, m, lost, i, ps, bs, l, o, ()) => (.leaf (.exit 2, L_sf2_0.st noU (pk, (), (), s, k, m, (lost ++ lostR l ((s.length : Int) - i).toNat i o), ps, bs, l, (o + ((s.length : Int) - i)), ())))
def R_sf2 : LRun := runOf 154 L_sf2 (fun x => x) (inv_sf2) (O_sf2)
theorem K_sf2 : LoopOk P [] 154 none noU C_sf2 (R_sf2) := by
  refine loop_of hm (cx := [c_RNext.gc]) [] (xl := X_sf2) (α := List Int × Unit × Unit × List Int × Int × List Int × List Int × Int × List Int × List (Int × (Int × (Int × V))) × List Int × Int × Unit) (fun x => x) (fun (pk, (), (), s, k, m, lost, i, ps, bs, l, o, ()) => ((s.length : Int) - i).toNat) (fun _ => rfl) (by kernel_rfl) (by kernel_rfl) ?_ (by kernel_rfl) trivial ?_
  · intro e S L' h
    unfold X_sf2 at h
    split at h <;> first | (cases h; done) | (cases h; kernel_rfl) | (rcases bif_some h with h | h <;> cases h <;> kernel_rfl)
  · rintro ⟨pk, ⟨⟩, ⟨⟩, s, k, m, lost, i, ps, bs, l, o, ⟨⟩⟩ hinv Q hQ
    refine hold_of_eq (B_sf2 pk s k m lost i ps bs l o) ?_

    obtain ⟨h0, h1, h2, h3, h4, h5⟩ := hinv
    rw [W_id (n := i + 1) (by omega) (by omega)]
    have hQ' : Q (.exit 2, L_sf2_0.st noU (pk, (), (), s, k, m, lost ++ lostR l ((s.length : Int) - i).toNat i o, ps, bs, l, o + ((s.length : Int) - i), ())) := hQ
    refine ⟨fun c1 => ?_, fun c1 => ?_⟩
    · have d1 : i < s.length := of_decide_eq_true c1
      have hm : ((s.length : Int) - (i + 1)).toNat < ((s.length : Int) - i).toNat := by omega
      rw [show ((s.length : Int) - i).toNat = ((s.length : Int) - (i + 1)).toNat + 1 by omega, lostR, show o + ((s.length : Int) - i) = o + 1 + ((s.length : Int) - (i + 1)) by omega] at hQ'
      refine ⟨⟨h3, by omega, by decide⟩, fun c2 => ⟨by show (lost.length + 1) * 8 ≤ 140737488355328; omega, ⟨⟨by omega, by omega, h2, by omega, by omega, ?_⟩, hm⟩, ?_⟩, fun c2 => ⟨⟨⟨by omega, by omega, h2, by omega, by omega, by omega⟩, hm⟩, ?_⟩⟩
      · show ((lost ++ [i]).length : Int) ≤ i + 1
        rw [List.length_append]; show ((lost.length + 1 : Nat) : Int) ≤ _; omega
      · rw [if_pos (eq_of_beq c2), List.append_cons] at hQ'
        exact hQ'
      · rw [if_neg (ne_of_beq_false c2)] at hQ'
        exact hQ'
    · have d1 : ¬ i < s.length := of_decide_eq_false c1
      rw [show ((s.length : Int) - i).toNat = 0 by omega, lostR, List.append_nil, show o + ((s.length : Int) - i) = o by omega] at hQ'
      exact hQ'
def L_sf6 : Lay := { slots := [(1, .val tIs), (5, .ptr 19154 0), (6, .ptr 7154 0), (7, .val tIs), (8, .val tI), (13, .val tIs), (15, .val tI), (16, .val tI)], boxes := [(7154, [.val tIs, .val (.sl (.pair tI (.pair tI (.pair tI tV))))]), (19154, [.val tIs, .val tI])] }
def L_sf6_0 : Lay := { slots := [(4, .val .bool)] }
def L_sf6_1 : Lay := { slots := [(1, .val tIs), (5, .ptr 19154 0), (6, .ptr 7154 0), (7, .val tIs), (8, .val tI), (13, .val tIs), (15, .val tI)], boxes := [(7154, [.val tIs, .val (.sl (.pair tI (.pair tI (.pair tI tV))))]), (19154, [.val tIs, .val tI])] }
def X_sf6 : Exit → St → Option Lay
  | .ret, _ => some L_sf6_0
  | .exit 6, _ => some L_sf6_1
  | _, _ => none
abbrev C_sf6 : Code := loopC (inner (loopC (inner (loopC (bodyOf Try.f9) 0)) 4)) 6
theorem B_sf6 (pk s : List Int) (k : Int) (t : List Int) (a b : Int) (ps : List Int) (bs : List (Int × (Int × (Int × V)))) (l : List Int) (o : Int) : loopBodyA (P := P) [c_hit.gc] (lpOf []) [] 154 noU (inner C_sf6) L_sf6 X_sf6 (α := List Int × Unit × Unit × List Int × Int × List Int × Int × Int × List Int × List (Int × (Int × (Int × V))) × List Int × Int × Unit) (fun x => x) (fun x => x) (pk, (), (), s, k, t, a, b, ps, bs, l, o, ()) =
  Tree.cond (decide (b < (↑(List.length s) : Int))) (Tree.need ((0 : Int) ≤ a ∧ a < (↑(List.length s) : Int)) (Tree.need ((0 : Int) ≤ b ∧ b < (↑(List.length s) : Int)) (Tree.need ((↑(List.length bs) : Int) ≤ (1000 : Int)) (Tree.cond (List.any bs (hitB a (List.getD s (Int.toNat a) (0 : Int)) b (List.getD s (Int.toNat b) (0 : Int)))) (Tree.leaf (Sum.inr (Exit.ret, Lay.st L_sf6_0 noU (false, PUnit.unit)))) (Tree.need ((0 : Int) ≤ a ∧ a < (↑(List.length s) : Int)) (Tree.need ((0 : Int) ≤ b ∧ b < (↑(List.length t) : Int)) (Tree.need ((↑(List.length bs) : Int) ≤ (1000 : Int)) (Tree.cond (List.any bs (hitB a (List.getD s (Int.toNat a) (0 : Int)) b (List.getD t (Int.toNat b) (0 : Int)))) (Tree.leaf (Sum.inr (Exit.ret, Lay.st L_sf6_0 noU (false, PUnit.unit)))) (Tree.need ((0 : Int) ≤ a ∧ a < (↑(List.length t) : Int)) (Tree.need ((0 : Int) ≤ b ∧ b < (↑(List.length s) : Int)) (Tree.need ((↑(List.length bs) : Int) ≤ (1000 : Int)) (Tree.cond (List.any bs (hitB a (List.getD t (Int.toNat a) (0 : Int)) b (List.getD s (Int.toNat b) (0 : Int)))) (Tree.leaf (Sum.inr (Exit.ret, Lay.st L_sf6_0 noU (false, PUnit.unit)))) (Tree.need ((0 : Int) ≤ a ∧ a < (↑(List.length t) : Int)) (Tree.need ((0 : Int) ≤ b ∧ b < (↑(List.length t) : Int)) (Tree.need ((↑(List.length bs) : Int) ≤ (1000 : Int)) (Tree.cond (List.any bs (hitB a (List.getD t (Int.toNat a) (0 : Int)) b (List.getD t (Int.toNat b) (0 : Int)))) (Tree.leaf (Sum.inr (Exit.ret, Lay.st L_sf6_0 noU (false, PUnit.unit)))) (Tree.leaf (Sum.inl (pk, PUnit.unit, PUnit.unit, s, k, t, a, IntKind.wrap IntKind.i64 (b + (1 : Int)), ps, bs, l, o, PUnit.unit))))))))))))))))))) (Tree.leaf (Sum.inr (Exit.exit (6 : Nat), Lay.st L_sf6_1 noU (pk, PUnit.unit, PUnit.unit, s, k, t, a, ps, bs, l, o, PUnit.unit)))) := by kernel_rfl

def inv_sf6 : List Int × Unit × Unit × List Int × Int × List Int × Int × Int × List Int × List (Int × (Int × (Int × V))) × List Int × Int × Unit → Prop := fun (pk, (), (), s, k, t, a, b, ps, bs, l, o, ()) => 0 ≤ a ∧ a < s.length ∧ 0 ≤ b ∧ b ≤ s.length ∧ s.length ≤ 4 ∧ t.length = s.length ∧ s.length = ps.length ∧ bs.length ≤ 24 ∧ Cl ps bs s t
def O_sf6 : List Int × Unit × Unit × List Int × Int × List Int × Int × Int × List Int × List (Int × (Int × (Int × V))) × List Int × Int × Unit → Tree (Exit × St) := fun (pk, (), (), s, k, t, a, b, ps, bs, l, o, ()) => (.leaf (.exit 6, L_sf6_1.st noU (pk, (), (), s, k, t, a, ps, bs, l, o, ())))
def R_sf6 : LRun := runOf 154 L_sf6 (fun x => x) (inv_sf6) (O_sf6)
theorem K_sf6 : LoopOk P [] 154 none noU C_sf6 (R_sf6) := by
  refine loop_of hm (cx := [c_hit.gc]) [] (xl := X_sf6) (α := List Int × Unit × Unit × List Int × Int × List Int × Int × Int × List Int × List (Int × (Int × (Int × V))) × List Int × Int × Unit) (fun x => x) (fun (pk, (), (), s, k, t, a, b, ps, bs, l, o, ()) => ((s.length : Int) - b).toNat) (fun _ => rfl) (by kernel_rfl) (by kernel_rfl) ?_ (by kernel_rfl) trivial ?_
  · intro e S L' h
    unfold X_sf6 at h
    split at h <;> first | (cases h; done) | (cases h; kernel_rfl) | (rcases bif_some h with h | h <;> cases h <;> kernel_rfl)
  · rintro ⟨pk, ⟨⟩, ⟨⟩, s, k, t, a, b, ps, bs, l, o, ⟨⟩⟩ hinv Q hQ
    refine hold_of_eq (B_sf6 pk s k t a b ps bs l o) ?_

    obtain ⟨h0, h1, h2, h3, h4, h5, h6, h7, h8⟩ := hinv
    rw [W_id (n := b + 1) (by omega) (by omega)]
    have hQ' : Q (.exit 6, L_sf6_1.st noU (pk, (), (), s, k, t, a, ps, bs, l, o, ())) := hQ
    refine ⟨fun c1 => ?_, fun c1 => hQ'⟩
    have d1 : b < s.length := of_decide_eq_true c1
    have hm : ((s.length : Int) - (b + 1)).toNat < ((s.length : Int) - b).toNat := by omega
    have n1 : 0 ≤ a ∧ a < (s.length : Int) := ⟨h0, h1⟩
    have n2 : 0 ≤ b ∧ b < (s.length : Int) := ⟨h2, d1⟩
    have n3 : 0 ≤ a ∧ a < (t.length : Int) := by omega
    have n4 : 0 ≤ b ∧ b < (t.length : Int) := by omega
    have n5 : (bs.length : Int) ≤ 1000 := by omega
    have hc := h8 a.toNat b.toNat (by omega) (by omega)
    rw [show ((a.toNat : Nat) : Int) = a by omega, show ((b.toNat : Nat) : Int) = b by omega] at hc
    refine ⟨n1, n2, n5, fun c => ?_, fun _ => ⟨n1, n4, n5, fun c => ?_, fun _ => ⟨n3, n2, n5, fun c => ?_, fun _ => ⟨n3, n4, n5, fun c => ?_, fun _ => ⟨⟨⟨h0, h1, by omega, by omega, h4, h5, h6, h7, h8⟩, hm⟩, hQ'⟩⟩⟩⟩⟩
    · rw [hc _ _ (.inl rfl) (.inl rfl)] at c; cases c
    · rw [hc _ _ (.inl rfl) (.inr rfl)] at c; cases c
    · rw [hc _ _ (.inr rfl) (.inl rfl)] at c; cases c
    · rw [hc _ _ (.inr rfl) (.inr rfl)] at c; cases c
def L_sf4 : Lay := { slots := [(1, .val tIs), (5, .ptr 19154 0), (6, .ptr 7154 0), (7, .val tIs), (8, .val tI), (13, .val tIs), (15, .val tI)], boxes := [(7154, [.val tIs, .val (.sl (.pair tI (.pair tI (.pair tI tV))))]), (19154, [.val tIs, .val tI])] }
def L_sf4_0 : Lay := { slots := [(4, .val .bool)] }
def L_sf4_1 : Lay := { slots := [(1, .val tIs), (5, .ptr 19154 0), (6, .ptr 7154 0), (8, .val tI), (13, .val tIs)], boxes := [(7154, [.val tIs, .val (.sl (.pair tI (.pair tI (.pair tI tV))))]), (19154, [.val tIs, .val tI])] }
def X_sf4 : Exit → St → Option Lay
  | .ret, _ => some L_sf4_0
  | .exit 4, _ => some L_sf4_1
  | _, _ => none
abbrev C_sf4 : Code := loopC (inner (loopC (bodyOf Try.f9) 0)) 4
theorem B_sf4 (pk s : List Int) (k : Int) (t : List Int) (a : Int) (ps : List Int) (bs : List (Int × (Int × (Int × V)))) (l : List Int) (o : Int) : loopBodyA (P := P) [] (lpOf [(6, R_sf6)]) [] 154 noU (inner C_sf4) L_sf4 X_sf4 (α := List Int × Unit × Unit × List Int × Int × List Int × Int × List Int × List (Int × (Int × (Int × V))) × List Int × Int × Unit) (fun x => x) (fun x => x) (pk, (), (), s, k, t, a, ps, bs, l, o, ()) =
  Tree.cond (decide (a < (↑(List.length s) : Int))) (Tree.need (inv_sf6 (pk, (), (), s, k, t, a, IntKind.wrap IntKind.i64 (a + (1 : Int)), ps, bs, l, o, ())) (Tree.leaf (Sum.inl (pk, PUnit.unit, PUnit.unit, s, k, t, IntKind.wrap IntKind.i64 (a + (1 : Int)), ps, bs, l, o, PUnit.unit)))) (Tree.leaf (Sum.inr (Exit.exit (4 : Nat), Lay.st L_sf4_1 noU (pk, PUnit.unit, PUnit.unit, k, t, ps, bs, l, o, PUnit.unit)))) := by kernel_rfl

def inv_sf4 : List Int × Unit × Unit × List Int × Int × List Int × Int × List Int × List (Int × (Int × (Int × V))) × List Int × Int × Unit → Prop := fun (pk, (), (), s, k, t, a, ps, bs, l, o, ()) => 0 ≤ a ∧ a ≤ s.length ∧ s.length ≤ 4 ∧ t.length = s.length ∧ s.length = ps.length ∧ bs.length ≤ 24 ∧ Cl ps bs s t
def O_sf4 : List Int × Unit × Unit × List Int × Int × List Int × Int × List Int × List (Int × (Int × (Int × V))) × List Int × Int × Unit → Tree (Exit × St) := fun (pk, (), (), s, k, t, a, ps, bs, l, o, ()) => (.leaf (.exit 4, L_sf4_1.st noU (pk, (), (), k, t, ps, bs, l, o, ())))
def R_sf4 : LRun := runOf 154 L_sf4 (fun x => x) (inv_sf4) (O_sf4)
theorem K_sf4 : LoopOk P [] 154 none noU C_sf4 (R_sf4) := by
  refine loop_of hm (cx := []) [(6, R_sf6)] (xl := X_sf4) (α := List Int × Unit × Unit × List Int × Int × List Int × Int × List Int × List (Int × (Int × (Int × V))) × List Int × Int × Unit) (fun x => x) (fun (pk, (), (), s, k, t, a, ps, bs, l, o, ()) => ((s.length : Int) - a).toNat) (fun _ => rfl) (by kernel_rfl) (by kernel_rfl) ?_ (by kernel_rfl) ⟨K_sf6, trivial⟩ ?_
  · intro e S L' h
    unfold X_sf4 at h
    split at h <;> first | (cases h; done) | (cases h; kernel_rfl) | (rcases bif_some h with h | h <;> cases h <;> kernel_rfl)
  · rintro ⟨pk, ⟨⟩, ⟨⟩, s, k, t, a, ps, bs, l, o, ⟨⟩⟩ hinv Q hQ
    refine hold_of_eq (B_sf4 pk s k t a ps bs l o) ?_

    obtain ⟨h0, h1, h2, h3, h4, h5, h6⟩ := hinv
    rw [W_id (n := a + 1) (by omega) (by omega)]
    have hQ' : Q (.exit 4, L_sf4_1.st noU (pk, (), (), k, t, ps, bs, l, o, ())) := hQ
    refine ⟨fun c1 => ?_, fun c1 => hQ'⟩
    have d1 : a < s.length := of_decide_eq_true c1
    have hm : ((s.length : Int) - (a + 1)).toNat < ((s.length : Int) - a).toNat := by omega
    exact ⟨⟨h0, d1, by omega, by omega, h2, h3, h4, h5, h6⟩, ⟨⟨by omega, by omega, h2, h3, h4, h5, h6⟩, hm⟩, hQ'⟩
def L_sf0 : Lay := { slots := [(1, .val tIs), (5, .ptr 19154 0), (6, .ptr 7154 0), (7, .val tIs), (8, .val tI)], boxes := [(7154, [.val tIs, .val (.sl (.pair tI (.pair tI (.pair tI tV))))]), (19154, [.val tIs, .val tI])] }
def L_sf0_0 : Lay := { slots := [(4, .val .bool)] }
def L_sf0_1 : Lay := { slots := [] }
def X_sf0 : Exit → St → Option Lay
  | .ret, _ => some L_sf0_0
  | .exit 0, _ => some L_sf0_1
  | _, _ => none
abbrev C_sf0 : Code := loopC (bodyOf Try.f9) 0
theorem B_sf0 (pk s : List Int) (k : Int) (ps : List Int) (bs : List (Int × (Int × (Int × V)))) (l : List Int) (o : Int) : loopBodyA (P := P) [c_Moves.gc, c_Mod.gc, c_Step.gc, c_State.gc] (lpOf [(2, R_sf2), (4, R_sf4)]) [] 154 noU (inner C_sf0) L_sf0 X_sf0 (α := List Int × Unit × Unit × List Int × Int × List Int × List (Int × (Int × (Int × V))) × List Int × Int × Unit) (fun x => x) (fun x => x) (pk, (), (), s, k, ps, bs, l, o, ()) =
  Tree.cond (decide (k < (↑(List.length pk) : Int))) (Tree.cond (decide (k < (12 : Int))) (Tree.cond ((↑(List.length (movesS (ps, bs) s)) : Int) == (0 : Int)) (Tree.leaf (Sum.inr (Exit.ret, Lay.st L_sf0_0 noU (false, PUnit.unit)))) (Tree.need ((0 : Int) ≤ k ∧ k < (↑(List.length pk) : Int)) (Tree.need ((0 : Int) < (↑(List.length (movesS (ps, bs) s)) : Int) ∧ R64 (↑(List.length (movesS (ps, bs) s)) : Int)) (Tree.need ((0 : Int) ≤ List.getD pk (Int.toNat k) (0 : Int) % (↑(List.length (movesS (ps, bs) s)) : Int) ∧ List.getD pk (Int.toNat k) (0 : Int) % (↑(List.length (movesS (ps, bs) s)) : Int) < (↑(List.length (movesS (ps, bs) s)) : Int)) (Tree.need (inv_sf2 (pk, (), (), s, k, List.getD (movesS (ps, bs) s) (Int.toNat (List.getD pk (Int.toNat k) (0 : Int) % (↑(List.length (movesS (ps, bs) s)) : Int))) [], [], (0 : Int), ps, bs, l, o, ())) (Tree.need ((↑(List.length (List.getD (movesS (ps, bs) s) (Int.toNat (List.getD pk (Int.toNat k) (0 : Int) % (↑(List.length (movesS (ps, bs) s)) : Int))) [])) : Int) < (2 : Int) ^ (62 : Nat) ∧ (↑(List.length (lostR l (Int.toNat ((↑(List.length s) : Int) - (0 : Int))) (0 : Int) o)) : Int) < (2 : Int) ^ (62 : Nat)) (Tree.cond ((stepS (ps, bs) s (List.getD (movesS (ps, bs) s) (Int.toNat (List.getD pk (Int.toNat k) (0 : Int) % (↑(List.length (movesS (ps, bs) s)) : Int))) []) (lostR l (Int.toNat ((↑(List.length s) : Int) - (0 : Int))) (0 : Int) o)).snd != (0 : Int)) (Tree.leaf (Sum.inr (Exit.ret, Lay.st L_sf0_0 noU (false, PUnit.unit)))) (Tree.cond (stateS (ps, bs) (stepS (ps, bs) s (List.getD (movesS (ps, bs) s) (Int.toNat (List.getD pk (Int.toNat k) (0 : Int) % (↑(List.length (movesS (ps, bs) s)) : Int))) []) (lostR l (Int.toNat ((↑(List.length s) : Int) - (0 : Int))) (0 : Int) o)).fst != (0 : Int)) (Tree.leaf (Sum.inr (Exit.ret, Lay.st L_sf0_0 noU (false, PUnit.unit)))) (Tree.need (inv_sf4 (pk, (), (), s, k, (stepS (ps, bs) s (List.getD (movesS (ps, bs) s) (Int.toNat (List.getD pk (Int.toNat k) (0 : Int) % (↑(List.length (movesS (ps, bs) s)) : Int))) []) (lostR l (Int.toNat ((↑(List.length s) : Int) - (0 : Int))) (0 : Int) o)).fst, (0 : Int), ps, bs, l, o + ((↑(List.length s) : Int) - (0 : Int)), ())) (Tree.leaf (Sum.inl (pk, PUnit.unit, PUnit.unit, (stepS (ps, bs) s (List.getD (movesS (ps, bs) s) (Int.toNat (List.getD pk (Int.toNat k) (0 : Int) % (↑(List.length (movesS (ps, bs) s)) : Int))) []) (lostR l (Int.toNat ((↑(List.length s) : Int) - (0 : Int))) (0 : Int) o)).fst, IntKind.wrap IntKind.i64 (k + (1 : Int)), ps, bs, l, o + ((↑(List.length s) : Int) - (0 : Int)), PUnit.unit)))))))))))) (Tree.leaf (Sum.inr (Exit.exit (0 : Nat), Lay.st L_sf0_1 noU PUnit.unit)))) (Tree.leaf (Sum.inr (Exit.exit (0 : Nat), Lay.st L_sf0_1 noU PUnit.unit))) := by kernel_rfl

def inv_sf0 : List Int × Unit × Unit × List Int × Int × List Int × List (Int × (Int × (Int × V))) × List Int × Int × Unit → Prop := fun (pk, (), (), s, k, ps, bs, l, o, ()) => 0 ≤ k ∧ k ≤ 12 ∧ 0 ≤ o ∧ o + 4 * (12 - k) ≤ 1000000 ∧ Sf (ps, bs) s
def O_sf0 : List Int × Unit × Unit × List Int × Int × List Int × List (Int × (Int × (Int × V))) × List Int × Int × Unit → Tree (Exit × St) := fun (pk, (), (), s, k, ps, bs, l, o, ()) => (.leaf (.exit 0, L_sf0_1.st noU ()))
def R_sf0 : LRun := runOf 154 L_sf0 (fun x => x) (inv_sf0) (O_sf0)
theorem K_sf0 : LoopOk P [] 154 none noU C_sf0 (R_sf0) := by
  refine loop_of hm (cx := [c_Moves.gc, c_Mod.gc, c_Step.gc, c_State.gc]) [(2, R_sf2), (4, R_sf4)] (xl := X_sf0) (α := List Int × Unit × Unit × List Int × Int × List Int × List (Int × (Int × (Int × V))) × List Int × Int × Unit) (fun x => x) (fun (pk, (), (), s, k, ps, bs, l, o, ()) => (12 - k).toNat) (fun _ => rfl) (by kernel_rfl) (by kernel_rfl) ?_ (by kernel_rfl) ⟨K_sf2, K_sf4, trivial⟩ ?_
  · intro e S L' h
    unfold X_sf0 at h
    split at h <;> first | (cases h; done) | (cases h; kernel_rfl) | (rcases bif_some h with h | h <;> cases h <;> kernel_rfl)
  · rintro ⟨pk, ⟨⟩, ⟨⟩, s, k, ps, bs, l, o, ⟨⟩⟩ hinv Q hQ
    refine hold_of_eq (B_sf0 pk s k ps bs l o) ?_

    obtain ⟨h0, h1, h2, h3, hs⟩ := hinv
    have hQ' : Q (.exit 0, L_sf0_1.st noU ()) := hQ
    refine ⟨fun c1 => ⟨fun c2 => ?_, fun c2 => hQ'⟩, fun c1 => hQ'⟩
    have d1 : k < pk.length := of_decide_eq_true c1
    have d2 : k < 12 := of_decide_eq_true c2
    have hm : (12 - (k + 1)).toNat < (12 - k).toNat := by omega
    rw [W_id (n := k + 1) (by omega) (by omega), Int.sub_zero, Int.toNat_natCast]
    obtain ⟨z1, z2, z3⟩ := zero_ok hs
    have d := hs.state
    have zm : List.replicate s.length 0 ∈ movesS (ps, bs) s := (movesS_mem d).2 ⟨mem_allM (by rw [List.length_replicate]) z1, z3⟩
    have hlen := movesS_len (ps, bs) s
    have hpos : 0 < (movesS (ps, bs) s).length := List.length_pos_of_mem zm
    have hne : ((movesS (ps, bs) s).length : Int) ≠ 0 := by omega
    have q0 := Int.emod_nonneg (pk.getD k.toNat 0) hne
    have q1 := Int.emod_lt_of_pos (pk.getD k.toNat 0) (show (0 : Int) < (movesS (ps, bs) s).length by omega)
    have hmm := getD_mem (d := ([] : List Int)) (show (pk.getD k.toNat 0 % ((movesS (ps, bs) s).length : Int)).toNat < (movesS (ps, bs) s).length by omega)
    generalize (movesS (ps, bs) s).getD (pk.getD k.toNat 0 % ((movesS (ps, bs) s).length : Int)).toNat [] = m at *
    obtain ⟨m1, m2⟩ := (movesS_mem d).1 hmm
    have sl := hs.vs.sl
    have l4 := (checkS_ok hs.ck).2.1
    have bl := (checkS_ok hs.ck).2.2.2.1
    have ml : m.length = ps.length := (allM_len m1).trans sl
    have hM := allM_is m1
    dsimp only at sl l4 bl
    obtain ⟨t1, t2, t3⟩ := stepS_eq (lost := lostR l s.length 0 o) hs ml hM m2 (fun x hx => by
      have := lostR_rng l s.length 0 o x hx
      show 0 ≤ x ∧ x < (ps.length : Int)
      omega)
    have hll : (lostR l s.length 0 o).length ≤ s.length := by
      have : ∀ (n : Nat) (i k : Int), (lostR l n i k).length ≤ n := fun n => by
        induction n with
        | zero => intro _ _; exact Nat.le_refl _
        | succ n ih =>
          intro i k
          rw [lostR]
          split
          · rw [List.length_cons]; have := ih (i + 1) (k + 1); omega
          · have := ih (i + 1) (k + 1); omega
      exact this _ _ _
    have hp : ∀ i : Nat, i < (ps, bs).1.length → (appS (lostR l s.length 0 o) s m 0).getD i 0 = s.getD i 0 + m.getD i 0 ∨ (appS (lostR l s.length 0 o) s m 0).getD i 0 = s.getD i 0 := fun i hi => by
      rw [t3 i hi]
      split
      · exact .inr rfl
      · exact .inl rfl
    have hst := after_ok hs ml hM m2 t2 hp
    have hcl := cl_of hs ml hM m2 hp
    rw [t1]
    dsimp only at t2 hcl ⊢
    have e1 := hst.state
    refine ⟨fun c => ?_, fun _ => ⟨⟨h0, d1⟩, ⟨by omega, by unfold R64; omega⟩, ⟨q0, q1⟩, ⟨by decide, by omega, by omega, h2, by omega, by decide⟩, ⟨by omega, by omega⟩, fun c => (by cases c), fun _ => ⟨fun c => ?_, fun _ => ⟨⟨by decide, by omega, by omega, by omega, sl, bl, hcl⟩, ⟨⟨by omega, by omega, by omega, by omega, hst⟩, hm⟩, hQ'⟩⟩⟩⟩
    · have := eq_of_beq c; omega
    · rw [e1] at c; cases c
theorem T_RigSafe (s0 pk : List Int) : fnTree (P := P) [c_NewRing.gc, c_RigOf.gc, c_Places.gc, c_State.gc, c_awake.gc] (lpOf [(0, R_sf0)]) Try.f9 (encL 0 [.val tIs, .val tIs] (s0, pk, ())) =
  Tree.need ((0 : Int) ≤ (0 : Int) ∧ (0 : Int) ≤ (500000000 : Int)) (Tree.need (KRig (kRig s0 (0 : Int)) ∧ (0 : Int) ≤ kRigK s0 (0 : Int) ∧ kRigK s0 (0 : Int) ≤ (500000000 : Int)) (Tree.cond (stateS (kRig s0 (0 : Int)) (kPlc s0 (kRig s0 (0 : Int)) (kRigK s0 (0 : Int))) != (0 : Int)) (Tree.leaf (SV.bool true)) (Tree.need (inv_sf0 (pk, (), (), kPlc s0 (kRig s0 (0 : Int)) (kRigK s0 (0 : Int)), (0 : Int), (kRig s0 (0 : Int)).fst, (kRig s0 (0 : Int)).snd, s0, kPlcK s0 (kRig s0 (0 : Int)) (kRigK s0 (0 : Int)), ())) (Tree.leaf (SV.bool true))))) := by kernel_rfl

def c_RigSafe : PC P := PC.of (α := List Int × List Int × Unit) 9 [.val tIs, .val tIs] (fun x => x) (fun x => x) (fun _ => rfl)
  (fun _ => none)
  (fun x => .bool true) (by kernel_rfl) (by
    rintro ⟨s0, pk, ⟨⟩⟩ hp
    refine fn_of hm (by kernel_rfl) (by kernel_rfl) (T_RigSafe s0 pk) ⟨K_sf0, trivial⟩ ?_

    try dsimp only at hp
    try dsimp only
    obtain ⟨hk, hk1, hk2⟩ := kRig_ok (l := s0) (k := 0) (by decide)
    obtain ⟨v, v1, v2⟩ := kPlc_ok (l := s0) hk hk1
    refine ⟨⟨by decide, by decide⟩, ⟨hk, hk1, by omega⟩, fun c1 => rfl, fun c1 => ⟨⟨by decide, by decide, by omega, by omega, ?_⟩, rfl⟩⟩
    exact sf_of (by simpa using c1))

end
end Go.MR
