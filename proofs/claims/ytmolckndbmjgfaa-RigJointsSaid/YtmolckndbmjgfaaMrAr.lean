/- RigJoints. -/
import Derived.Test.YtmolckndbmjgfaaMrAl
namespace Go.MR
open Go Go.Sx Go.Proofs
open Go.MP (c_kPath c_kStr c_TLength c_TJoints c_Mod64 pr_kPath V_kPath S_kPath nextS_rng lenS lenS_nn strK strK_ok tTs Tb tT nearS jntT jntL stepsJ sumT AllF checkT checkT_ok lenT lenT_str jntT_len sumT_rng lenT_rng)
set_option linter.unusedVariables false
set_option linter.unusedSimpArgs false
noncomputable section
theorem steps_rng : ∀ (k : Nat) (a d : Int), 0 ≤ d → ∀ x ∈ stepsJ k a d, a ≤ x ∧ x ≤ a + k * d
  | 0, _, _, _, x, hx => by cases hx
  | k + 1, a, d, hd, x, hx => by
    have e : ((k + 1 : Nat) : Int) * d = k * d + d := by rw [Int.natCast_add, Int.add_mul]; simp
    have hk : 0 ≤ (k : Int) * d := Int.mul_nonneg (by omega) hd
    rw [stepsJ] at hx
    rcases List.mem_cons.1 hx with rfl | hx
    · omega
    · have := steps_rng k (a + d) d hd x hx
      omega
theorem jntL_rng : ∀ (l : List Tb), AllF l → ∀ a : Int, ∀ x ∈ jntL a l, a ≤ x ∧ x ≤ a + sumT l
  | [], _, a, x, hx => by cases hx
  | t :: r, h, a, x, hx => by
    have ht := h t (by simp)
    have hc := ht.cnt
    have hl := ht.len
    have hp := ht.prod
    have hr := (sumT_rng r fun u hu => h u (by simp [hu])).1
    rw [sumT]
    rw [jntL] at hx
    rcases List.mem_append.1 hx with hx | hx
    · have := steps_rng t.1.toNat a t.2.1 (by omega) x hx
      rw [Int.toNat_of_nonneg (by omega)] at this
      omega
    · have := jntL_rng r (fun u hu => h u (by simp [hu])) _ x hx
      omega
theorem jntT_rng {l : List Tb} (hc : checkT l = 0) : ∀ x ∈ jntT l, 0 ≤ x ∧ x ≤ 1048576 := fun x hx => by
  obtain ⟨h1, h2, h3, h4⟩ := checkT_ok hc
  unfold jntT at hx
  rw [if_pos hc] at hx
  rcases List.mem_cons.1 hx with rfl | hx
  · omega
  · have := jntL_rng l h3 0 x hx
    omega
def clB (a n j : Int) : Bool := decide (IntKind.wrap IntKind.i64 (j - a) ≤ n) && decide (IntKind.wrap IntKind.i64 (0 - IntKind.wrap IntKind.i64 (j - a)) ≤ n)
theorem any_same {α : Type} {p q : α → Bool} : ∀ {l : List α}, (∀ x ∈ l, p x = q x) → l.any p = l.any q
  | [], _ => rfl
  | x :: l, h => by rw [List.any_cons, List.any_cons, h x (by simp), any_same (fun y hy => h y (List.mem_cons_of_mem _ hy))]
theorem close_near {l : List Tb} (hc : checkT l = 0) {a n : Int} (ha : -100000 ≤ a ∧ a ≤ 2000000) (hn : 0 ≤ n ∧ n ≤ 100) : (jntT l).any (clB a n) = nearS l (a - n) (a + n) := by
  unfold nearS
  refine any_same fun x hx => ?_
  have hr := jntT_rng hc x hx
  unfold clB Go.MP.inS Go.MP.wi
  rw [W_id (n := x - a) (by omega) (by omega), W_id (n := 0 - (x - a)) (by omega) (by omega), Bool.eq_iff_iff, Bool.and_eq_true, Bool.and_eq_true, decide_eq_true_eq, decide_eq_true_eq, decide_eq_true_eq, decide_eq_true_eq]
  omega
theorem banEs_zero {ps : List Int} : ∀ {l : List Ban}, (∀ b ∈ l, banE ps b = 0) → banEs ps l = 0
  | [], _ => rfl
  | b :: l, h => by
    rw [banEs, if_neg (by rw [h b (by simp)]; simp)]
    exact banEs_zero fun c hc => h c (List.mem_cons_of_mem _ hc)
theorem mkB_01 (a b : Int) : mkB 0 1 1 1 a b = (0, a, b, 1, 1, 1) := by unfold mkB; rw [if_neg (by decide)]
theorem two_ok {nr : Int → Bool} {n : Int} (h2 : 2 ≤ n) (h8 : n ≤ 8) {h : Int} (h0 : 0 ≤ h) (h1 : h < n) :
    decide (stateS ([n, 2], shP nr (mkB 0 1 1 1) n (n + 1).toNat 0 (-1) []) [h, 1] = 0) = !nr h ∧ stateS ([n, 2], shP nr (mkB 0 1 1 1) n (n + 1).toNat 0 (-1) []) [h, 0] = 0 := by
  have hlen := shP_len (nr := nr) (mk := mkB 0 1 1 1) (n := n) (n + 1).toNat 0 (-1) []
  have hmem := shP_mem (nr := nr) (mk := mkB 0 1 1 1) (n := n) (n + 1).toNat 0 (-1) [] (by omega) (fun q => by omega)
  have hall := shP_all (nr := nr) (mk := mkB 0 1 1 1) (n := n) (n + 1).toNat 0 (-1) [] (by omega) (by omega) (fun q => by omega) h h1
  generalize shP nr (mkB 0 1 1 1) n (n + 1).toNat 0 (-1) [] = bs at *
  have hb : ∀ b ∈ bs, ∃ a c, b = (0, a, c, 1, 1, 1) ∧ 0 ≤ a ∧ a ≤ c ∧ c < n ∧ ∀ x, a ≤ x → x ≤ c → nr x = true := fun b hb => by
    rcases hmem b hb with q | ⟨a, c, q1, q2⟩
    · cases q
    · exact ⟨a, c, by rw [q1, mkB_01], q2⟩
  have hck : checkS ([n, 2], bs) = 0 := by
    unfold checkS
    have e1 : ([n, 2] : List Int).any badP = false := by
      have q1 : badP n = false := by unfold badP wi; rw [decide_eq_true h2, decide_eq_true h8]; rfl
      have q2 : badP 2 = false := rfl
      rw [List.any_cons, List.any_cons, q1, q2]; rfl
    rw [if_neg (by show ¬ ((2 : Nat) : Int) < 2; omega), if_neg (by show ¬ ((2 : Nat) : Int) > 4; omega), if_neg (by rw [e1]; decide), if_neg (by rw [List.length_nil] at hlen; show ¬ (bs.length : Int) > 24; omega)]
    refine banEs_zero fun b hbm => ?_
    obtain ⟨a, c, rfl, q1, q2, q3, _⟩ := hb b hbm
    unfold banE
    rw [if_neg (by show ¬ ((0 : Int) < 0 ∨ (0 : Int) ≥ 1 ∨ (1 : Int) ≥ ((2 : Nat) : Int)); omega), if_neg (by show ¬ (a < 0 ∨ a > c ∨ c ≥ n ∨ (1 : Int) < 0 ∨ (1 : Int) > 1 ∨ (1 : Int) ≥ 2); omega)]
  have hob := banEs_all (checkS_ok hck).2.2.2.2
  have vs : ∀ y : Int, 0 ≤ y → y < 2 → VS [n, 2] [h, y] := fun y y0 y1 => ⟨rfl, by
    show (decide (0 ≤ h) && decide (h < n) && (decide (0 ≤ y) && decide (y < 2) && true)) = true
    rw [decide_eq_true h0, decide_eq_true h1, decide_eq_true y0, decide_eq_true y1]; rfl⟩
  have st : ∀ y : Int, 0 ≤ y → y < 2 → stateS ([n, 2], bs) [h, y] = if safeS [n, 2] bs [h, y] = true then 0 else 12 := fun y y0 y1 => Sf.state.state_of' hck (vs y y0 y1)
  constructor
  · rw [st 1 (by decide) (by decide)]
    cases hn : nr h with
    | true =>
      obtain ⟨a, c, q1, q2, q3⟩ := hall hn (.inl h0)
      rw [mkB_01] at q1
      have : ¬ safeS [n, 2] bs [h, 1] = true := fun q => by
        have := (safe_iff (vs 1 (by decide) (by decide)) hob).1 q _ q1
        unfold stP wi at this
        simp only [List.getD_cons_zero, List.getD_cons_succ, Int.toNat_zero] at this
        have e : (decide (a ≤ h) && decide (h ≤ c) && (decide ((1 : Int) ≤ 1) && decide ((1 : Int) ≤ 1))) = true := by rw [decide_eq_true q2, decide_eq_true q3]; rfl
        have this' : (decide (a ≤ h) && decide (h ≤ c) && (decide ((1 : Int) ≤ 1) && decide ((1 : Int) ≤ 1))) = false := this
        rw [e] at this'
        cases this'
      rw [if_neg this]; rfl
    | false =>
      have : safeS [n, 2] bs [h, 1] = true := (safe_iff (vs 1 (by decide) (by decide)) hob).2 fun b hbm => by
        obtain ⟨a, c, rfl, _, _, _, q⟩ := hb b hbm
        show (decide (a ≤ h) && decide (h ≤ c) && (decide ((1 : Int) ≤ 1) && decide ((1 : Int) ≤ 1))) = false
        by_cases e1 : a ≤ h
        · by_cases e2 : h ≤ c
          · have := q h e1 e2
            rw [hn] at this
            cases this
          · rw [decide_eq_false e2, Bool.and_false, Bool.false_and]
        · rw [decide_eq_false e1, Bool.false_and, Bool.false_and]
      rw [if_pos this]; rfl
  · rw [st 0 (by decide) (by decide)]
    have : safeS [n, 2] bs [h, 0] = true := (safe_iff (vs 0 (by decide) (by decide)) hob).2 fun b hbm => by
      obtain ⟨a, c, rfl, _⟩ := hb b hbm
      show (decide (a ≤ h) && decide (h ≤ c) && (decide ((1 : Int) ≤ 0) && decide ((0 : Int) ≤ 1))) = false
      rw [decide_eq_false (show ¬ (1 : Int) ≤ 0 by decide), Bool.false_and, Bool.and_false]
    rw [if_pos this]
def L_rjnL : Lay := { slots := [(17, .ptr 18126 0), (20, .ptr 21126 0), (21, .val tI), (22, .val tI), (23, .val tIs), (24, .val .bool), (25, .val tI)], boxes := [(18126, [.val tI, .val tI, .val tI]), (21126, [.row 3 tI, .val (.sl (.pair tI (.pair tI (.pair tI tV))))])] }
def L_rjnL_0 : Lay := { slots := [(20, .ptr 21126 0), (21, .val tI), (24, .val .bool)], boxes := [(21126, [.row 3 tI, .val (.sl (.pair tI (.pair tI (.pair tI tV))))])] }
def X_rjnL : Exit → St → Option Lay
  | .exit 0, _ => some L_rjnL_0
  | _, _ => none
abbrev C_rjnL : Code := loopC (bodyOf Try.f14) 0
theorem B_rjnL (h a : Int) (js : List Int) (cl : Bool) (i f st nr : Int) (b20_0 : List Int) (b20_1 : List (Int × (Int × (Int × V)))) : loopBodyA (P := P) [] (lpOf []) [] 126 noU (inner C_rjnL) L_rjnL X_rjnL (α := Unit × Unit × Int × Int × List Int × Bool × Int × Int × Int × Int × List Int × List (Int × (Int × (Int × V))) × Unit) (fun x => x) (fun x => x) ((), (), h, a, js, cl, i, f, st, nr, b20_0, b20_1, ()) =
  Tree.cond (decide (i < (↑(List.length js) : Int))) (Tree.need ((0 : Int) ≤ i ∧ i < (↑(List.length js) : Int)) (Tree.cond cl (Tree.leaf (Sum.inl (PUnit.unit, PUnit.unit, h, a, js, true, IntKind.wrap IntKind.i64 (i + (1 : Int)), f, st, nr, b20_0, b20_1, PUnit.unit))) (Tree.cond (decide (IntKind.wrap IntKind.i64 (List.getD js (Int.toNat i) (0 : Int) - a) ≤ nr)) (Tree.leaf (Sum.inl (PUnit.unit, PUnit.unit, h, a, js, decide (IntKind.wrap IntKind.i64 ((0 : Int) - IntKind.wrap IntKind.i64 (List.getD js (Int.toNat i) (0 : Int) - a)) ≤ nr), IntKind.wrap IntKind.i64 (i + (1 : Int)), f, st, nr, b20_0, b20_1, PUnit.unit))) (Tree.leaf (Sum.inl (PUnit.unit, PUnit.unit, h, a, js, false, IntKind.wrap IntKind.i64 (i + (1 : Int)), f, st, nr, b20_0, b20_1, PUnit.unit)))))) (Tree.leaf (Sum.inr (Exit.exit (0 : Nat), Lay.st L_rjnL_0 noU (PUnit.unit, h, cl, b20_0, b20_1, PUnit.unit)))) := by kernel_rfl
def inv_rjnL : Unit × Unit × Int × Int × List Int × Bool × Int × Int × Int × Int × List Int × List (Int × (Int × (Int × V))) × Unit → Prop := fun ((), (), h, a, js, cl, i, f, st, nr, b20_0, b20_1, ()) => 0 ≤ i ∧ i ≤ js.length ∧ (js.length : Int) < 2 ^ 62
def O_rjnL : Unit × Unit × Int × Int × List Int × Bool × Int × Int × Int × Int × List Int × List (Int × (Int × (Int × V))) × Unit → Tree (Exit × St) := fun ((), (), h, a, js, cl, i, f, st, nr, b20_0, b20_1, ()) => (.leaf (.exit 0, L_rjnL_0.st noU ((), h, (cl || (js.drop i.toNat).any (clB a nr)), b20_0, b20_1, ())))
def R_rjnL : LRun := runOf 126 L_rjnL (fun x => x) (inv_rjnL) (O_rjnL)
theorem K_rjnL : LoopOk P [] 126 none noU C_rjnL (R_rjnL) := by
  refine loop_of hm (cx := []) [] (xl := X_rjnL) (α := Unit × Unit × Int × Int × List Int × Bool × Int × Int × Int × Int × List Int × List (Int × (Int × (Int × V))) × Unit) (fun x => x) (fun ((), (), h, a, js, cl, i, f, st, nr, b20_0, b20_1, ()) => ((js.length : Int) - i).toNat) (fun _ => rfl) (by kernel_rfl) (by kernel_rfl) ?_ (by kernel_rfl) trivial ?_
  · intro e S L' h
    unfold X_rjnL at h
    split at h <;> first | (cases h; done) | (cases h; kernel_rfl) | (rcases bif_some h with h | h <;> cases h <;> kernel_rfl)
  · rintro ⟨⟨⟩, ⟨⟩, h, a, js, cl, i, f, st, nr, b20_0, b20_1, ⟨⟩⟩ hinv Q hQ
    refine hold_of_eq (B_rjnL h a js cl i f st nr b20_0 b20_1) ?_
    obtain ⟨h0, h1, h2⟩ := hinv
    have hQ' : Q (.exit 0, L_rjnL_0.st noU ((), h, cl || (js.drop i.toNat).any (clB a nr), b20_0, b20_1, ())) := hQ
    refine ⟨fun c1 => ?_, fun c1 => ?_⟩
    · have d1 : i < js.length := of_decide_eq_true c1
      rw [W_id (n := i + 1) (by omega) (by omega)]
      rw [drop_step (0 : Int) h0 d1, List.any_cons] at hQ'
      have go : ∀ b : Bool, (cl || clB a nr (js.getD i.toNat 0)) = b → roundB inv_rjnL (fun (_, _, _, _, js, _, i, _) => ((js.length : Int) - i).toNat) O_rjnL Q ((), (), h, a, js, cl, i, f, st, nr, b20_0, b20_1, ()) (Sum.inl ((), (), h, a, js, b, i + 1, f, st, nr, b20_0, b20_1, ())) := fun b e => by
        rw [← Bool.or_assoc, e] at hQ'
        exact ⟨⟨⟨by omega, by omega, h2⟩, by show ((js.length : Int) - (i + 1)).toNat < ((js.length : Int) - i).toNat; omega⟩, hQ'⟩
      refine ⟨⟨h0, d1⟩, fun c2 => go true (by rw [show cl = true from c2, Bool.true_or]), fun c2 => ⟨fun c3 => go _ ?_, fun c3 => go false ?_⟩⟩
      · rw [show cl = false from c2, Bool.false_or]
        unfold clB
        rw [show decide (IntKind.wrap IntKind.i64 (js.getD i.toNat 0 - a) ≤ nr) = true from c3, Bool.true_and]
      · rw [show cl = false from c2, Bool.false_or]
        unfold clB
        rw [show decide (IntKind.wrap IntKind.i64 (js.getD i.toNat 0 - a) ≤ nr) = false from c3, Bool.false_and]
    · rw [drop_end (of_decide_eq_false c1), List.any_nil, Bool.or_false] at hQ'
      exact hQ'
theorem T_RigJoints (s0 : List Int) (s1 s2 s3 s4 s5 : Int) (x1_ : Nat) (hx1_ : x1_ = (Int.toNat ((1 : Int) + MP.nextS s0 (V_kPath ((), (6 : Int), s0, (0 : Int), ())).snd (4 : Int)))) : fnTree (P := P) [c_awake.gc, c_NewRing.gc, c_kPath.gc, c_kStr.gc, c_TLength.gc, c_Mod64.gc, c_Mod.gc, c_Shear.gc, c_TJoints.gc, c_State.gc] (lpOf [(0, R_rjnL)]) Try.f14 (encL 0 [.val tIs, .val tI, .val tI, .val tI, .val tI, .val tI] (s0, s1, s2, s3, s4, s5, ())) =
  Tree.need (pr_kPath ((), (6 : Int), s0, (0 : Int), ())) (Tree.need ((0 : Int) ≤ (V_kPath ((), (6 : Int), s0, (0 : Int), ())).snd ∧ (V_kPath ((), (6 : Int), s0, (0 : Int), ())).snd ≤ (400000000 : Int)) (Tree.cond (!decide ((↑(List.length (strK s0 (lenS (V_kPath ((), (6 : Int), s0, (0 : Int), ())).fst) x1_ ((V_kPath ((), (6 : Int), s0, (0 : Int), ())).snd + (1 : Int)) []).fst) : Int) > (0 : Int))) (Tree.leaf (SV.bool true)) (Tree.need ((↑(List.length (strK s0 (lenS (V_kPath ((), (6 : Int), s0, (0 : Int), ())).fst) x1_ ((V_kPath ((), (6 : Int), s0, (0 : Int), ())).snd + (1 : Int)) []).fst) : Int) < (2 : Int) ^ (62 : Nat)) (Tree.need ((0 : Int) < IntKind.wrap IntKind.i64 (lenT (strK s0 (lenS (V_kPath ((), (6 : Int), s0, (0 : Int), ())).fst) x1_ ((V_kPath ((), (6 : Int), s0, (0 : Int), ())).snd + (1 : Int)) []).fst + (1 : Int)) ∧ MP.R64 (IntKind.wrap IntKind.i64 (lenT (strK s0 (lenS (V_kPath ((), (6 : Int), s0, (0 : Int), ())).fst) x1_ ((V_kPath ((), (6 : Int), s0, (0 : Int), ())).snd + (1 : Int)) []).fst + (1 : Int)))) (Tree.need ((0 : Int) < (300 : Int) ∧ MP.R64 (300 : Int)) (Tree.need ((0 : Int) < (101 : Int) ∧ MP.R64 (101 : Int)) (Tree.need ((0 : Int) < (7 : Int) ∧ R64 (7 : Int)) (Tree.need ((↑(List.length (strK s0 (lenS (V_kPath ((), (6 : Int), s0, (0 : Int), ())).fst) x1_ ((V_kPath ((), (6 : Int), s0, (0 : Int), ())).snd + (1 : Int)) []).fst) : Int) < (2 : Int) ^ (62 : Nat)) (Tree.cond (ramE (s1 % IntKind.wrap IntKind.i64 (lenT (strK s0 (lenS (V_kPath ((), (6 : Int), s0, (0 : Int), ())).fst) x1_ ((V_kPath ((), (6 : Int), s0, (0 : Int), ())).snd + (1 : Int)) []).fst + (1 : Int)), IntKind.wrap IntKind.i64 ((1 : Int) + s2 % (300 : Int)), s3 % (101 : Int)) (strK s0 (lenS (V_kPath ((), (6 : Int), s0, (0 : Int), ())).fst) x1_ ((V_kPath ((), (6 : Int), s0, (0 : Int), ())).snd + (1 : Int)) []).fst (0 : Int) (IntKind.wrap IntKind.i64 ((2 : Int) + s4 % (7 : Int))) (1 : Int) ((1 : Int), (1 : Int)) != (0 : Int)) (Tree.leaf (SV.bool false)) (Tree.need ((0 : Int) < IntKind.wrap IntKind.i64 ((2 : Int) + s4 % (7 : Int)) ∧ R64 (IntKind.wrap IntKind.i64 ((2 : Int) + s4 % (7 : Int)))) (Tree.need ((↑(List.length (strK s0 (lenS (V_kPath ((), (6 : Int), s0, (0 : Int), ())).fst) x1_ ((V_kPath ((), (6 : Int), s0, (0 : Int), ())).snd + (1 : Int)) []).fst) : Int) < (2 : Int) ^ (62 : Nat)) (Tree.need (inv_rjnL ((), (), s5 % IntKind.wrap IntKind.i64 ((2 : Int) + s4 % (7 : Int)), IntKind.wrap IntKind.i64 (s1 % IntKind.wrap IntKind.i64 (lenT (strK s0 (lenS (V_kPath ((), (6 : Int), s0, (0 : Int), ())).fst) x1_ ((V_kPath ((), (6 : Int), s0, (0 : Int), ())).snd + (1 : Int)) []).fst + (1 : Int)) - IntKind.wrap IntKind.i64 (s5 % IntKind.wrap IntKind.i64 ((2 : Int) + s4 % (7 : Int)) * IntKind.wrap IntKind.i64 ((1 : Int) + s2 % (300 : Int)))), jntT (strK s0 (lenS (V_kPath ((), (6 : Int), s0, (0 : Int), ())).fst) x1_ ((V_kPath ((), (6 : Int), s0, (0 : Int), ())).snd + (1 : Int)) []).fst, false, (0 : Int), s1 % IntKind.wrap IntKind.i64 (lenT (strK s0 (lenS (V_kPath ((), (6 : Int), s0, (0 : Int), ())).fst) x1_ ((V_kPath ((), (6 : Int), s0, (0 : Int), ())).snd + (1 : Int)) []).fst + (1 : Int)), IntKind.wrap IntKind.i64 ((1 : Int) + s2 % (300 : Int)), s3 % (101 : Int), [IntKind.wrap IntKind.i64 ((2 : Int) + s4 % (7 : Int)), (2 : Int)], shearS (s1 % IntKind.wrap IntKind.i64 (lenT (strK s0 (lenS (V_kPath ((), (6 : Int), s0, (0 : Int), ())).fst) x1_ ((V_kPath ((), (6 : Int), s0, (0 : Int), ())).snd + (1 : Int)) []).fst + (1 : Int)), IntKind.wrap IntKind.i64 ((1 : Int) + s2 % (300 : Int)), s3 % (101 : Int)) (strK s0 (lenS (V_kPath ((), (6 : Int), s0, (0 : Int), ())).fst) x1_ ((V_kPath ((), (6 : Int), s0, (0 : Int), ())).snd + (1 : Int)) []).fst (0 : Int) (IntKind.wrap IntKind.i64 ((2 : Int) + s4 % (7 : Int))) (1 : Int) ((1 : Int), (1 : Int)), ())) (Tree.cond ((stateS ([IntKind.wrap IntKind.i64 ((2 : Int) + s4 % (7 : Int)), (2 : Int)], shearS (s1 % IntKind.wrap IntKind.i64 (lenT (strK s0 (lenS (V_kPath ((), (6 : Int), s0, (0 : Int), ())).fst) x1_ ((V_kPath ((), (6 : Int), s0, (0 : Int), ())).snd + (1 : Int)) []).fst + (1 : Int)), IntKind.wrap IntKind.i64 ((1 : Int) + s2 % (300 : Int)), s3 % (101 : Int)) (strK s0 (lenS (V_kPath ((), (6 : Int), s0, (0 : Int), ())).fst) x1_ ((V_kPath ((), (6 : Int), s0, (0 : Int), ())).snd + (1 : Int)) []).fst (0 : Int) (IntKind.wrap IntKind.i64 ((2 : Int) + s4 % (7 : Int))) (1 : Int) ((1 : Int), (1 : Int))) [s5 % IntKind.wrap IntKind.i64 ((2 : Int) + s4 % (7 : Int)), (1 : Int)] == (0 : Int)) == !(false || List.any (List.drop (Int.toNat (0 : Int)) (jntT (strK s0 (lenS (V_kPath ((), (6 : Int), s0, (0 : Int), ())).fst) x1_ ((V_kPath ((), (6 : Int), s0, (0 : Int), ())).snd + (1 : Int)) []).fst)) (clB (IntKind.wrap IntKind.i64 (s1 % IntKind.wrap IntKind.i64 (lenT (strK s0 (lenS (V_kPath ((), (6 : Int), s0, (0 : Int), ())).fst) x1_ ((V_kPath ((), (6 : Int), s0, (0 : Int), ())).snd + (1 : Int)) []).fst + (1 : Int)) - IntKind.wrap IntKind.i64 (s5 % IntKind.wrap IntKind.i64 ((2 : Int) + s4 % (7 : Int)) * IntKind.wrap IntKind.i64 ((1 : Int) + s2 % (300 : Int))))) (s3 % (101 : Int))))) (Tree.cond (stateS ([IntKind.wrap IntKind.i64 ((2 : Int) + s4 % (7 : Int)), (2 : Int)], shearS (s1 % IntKind.wrap IntKind.i64 (lenT (strK s0 (lenS (V_kPath ((), (6 : Int), s0, (0 : Int), ())).fst) x1_ ((V_kPath ((), (6 : Int), s0, (0 : Int), ())).snd + (1 : Int)) []).fst + (1 : Int)), IntKind.wrap IntKind.i64 ((1 : Int) + s2 % (300 : Int)), s3 % (101 : Int)) (strK s0 (lenS (V_kPath ((), (6 : Int), s0, (0 : Int), ())).fst) x1_ ((V_kPath ((), (6 : Int), s0, (0 : Int), ())).snd + (1 : Int)) []).fst (0 : Int) (IntKind.wrap IntKind.i64 ((2 : Int) + s4 % (7 : Int))) (1 : Int) ((1 : Int), (1 : Int))) [s5 % IntKind.wrap IntKind.i64 ((2 : Int) + s4 % (7 : Int)), (0 : Int)] == (0 : Int)) (Tree.leaf (SV.bool true)) (Tree.leaf (SV.bool false))) (Tree.leaf (SV.bool false))))))))))))))) := by
  subst hx1_; kernel_rfl
def c_RigJoints : PC P := PC.of (α := List Int × Int × Int × Int × Int × Int × Unit) 14 [.val tIs, .val tI, .val tI, .val tI, .val tI, .val tI] (fun x => x) (fun x => x) (fun _ => rfl)
  (fun _ => none)
  (fun x => .bool true) (by kernel_rfl) (by
    rintro ⟨s0, s1, s2, s3, s4, s5, ⟨⟩⟩ hp
    refine fn_of hm (by kernel_rfl) (by kernel_rfl) (T_RigJoints s0 s1 s2 s3 s4 s5 _ rfl) ⟨K_rjnL, trivial⟩ ?_
    try dsimp only at hp
    try dsimp only
    have hpr : pr_kPath ((), (6 : Int), s0, (0 : Int), ()) := ⟨by decide, by decide, by decide, by decide⟩
    have hS := S_kPath _ hpr
    generalize V_kPath ((), (6 : Int), s0, (0 : Int), ()) = b at *
    obtain ⟨⟨⟨x, y, z⟩, pl⟩, k1⟩ := b
    obtain ⟨hc, h1, h2, _⟩ := hS
    dsimp only at hc h1 h2 ⊢
    have n0 := nextS_rng (l := s0) (k := k1) (n := 4) (by omega) (by decide)
    have hstr := strK_ok (l := s0) (n := lenS ((x, y, z), pl)) (1 + Go.MP.nextS s0 k1 4).toNat (k1 + 1) [] (by omega) ⟨fun t ht => (by cases ht), lenS_nn _, by decide, fun t ht => (by cases ht)⟩
    generalize strK s0 (lenS ((x, y, z), pl)) (1 + Go.MP.nextS s0 k1 4).toNat (k1 + 1) [] = st' at *
    obtain ⟨s, k2⟩ := st'
    obtain ⟨hok, b, _, _⟩ := hstr
    dsimp only at b hok ⊢
    rw [List.length_nil] at b
    have hL := lenT_rng s
    have e4 := Int.emod_nonneg s4 (show (7 : Int) ≠ 0 by decide)
    have e4' := Int.emod_lt_of_pos s4 (show (0 : Int) < 7 by decide)
    have e2 := Int.emod_nonneg s2 (show (300 : Int) ≠ 0 by decide)
    have e2' := Int.emod_lt_of_pos s2 (show (0 : Int) < 300 by decide)
    have e3 := Int.emod_nonneg s3 (show (101 : Int) ≠ 0 by decide)
    have e3' := Int.emod_lt_of_pos s3 (show (0 : Int) < 101 by decide)
    rw [W_id (n := lenT s + 1) (by omega) (by omega), W_id (n := 1 + s2 % 300) (by omega) (by omega), W_id (n := 2 + s4 % 7) (by omega) (by omega)]
    have e1 := Int.emod_nonneg s1 (show lenT s + 1 ≠ 0 by omega)
    have e1' := Int.emod_lt_of_pos s1 (show 0 < lenT s + 1 by omega)
    have e5 := Int.emod_nonneg s5 (show 2 + s4 % 7 ≠ 0 by omega)
    have e5' := Int.emod_lt_of_pos s5 (show 0 < 2 + s4 % 7 by omega)
    have r0 : Go.MP.R64 (lenT s + 1) := ⟨by omega, by omega⟩
    have r5 : R64 (2 + s4 % 7) := ⟨by omega, by omega⟩
    have hP : 2 ≤ 2 + s4 % 7 ∧ 2 + s4 % 7 ≤ 8 := by omega
    generalize s5 % (2 + s4 % 7) = h at *
    generalize hF : s1 % (lenT s + 1) = F at *
    generalize 2 + s4 % 7 = P' at *
    generalize hSt : 1 + s2 % 300 = St' at *
    generalize s3 % 101 = N' at *
    have hm := Go.MP.mul_rng (a := h) (b := St') (A := 8) (B := 300) e5 (by omega) (by omega) (by omega)
    rw [W_id (n := h * St') (by omega) (by omega), W_id (n := F - h * St') (by omega) (by omega)]
    refine ⟨hpr, ⟨by omega, by omega⟩, fun _ => rfl, fun c1 => ?_⟩
    have hne : s ≠ [] := by
      rintro rfl
      cases c1
    obtain ⟨g1, g2⟩ := lenT_str hok (by omega)
    have hck := g2 hne
    have hE : ramE (F, St', N') s 0 P' 1 (1, 1) = 0 := by
      unfold ramE
      rw [if_neg (by rw [hck]; simp), if_neg (by dsimp only; omega), if_neg (by omega), if_neg (by dsimp only; omega)]
    have hSh : shearS (F, St', N') s 0 P' 1 (1, 1) = shP (nrS F St' N' s) (mkB 0 1 1 1) P' (P' + 1).toNat 0 (-1) [] := by
      unfold shearS
      rw [hE, if_neg (by decide)]
    obtain ⟨t1, t2⟩ := two_ok (nr := nrS F St' N' s) (n := P') (by omega) (by omega) e5 e5'
    have hcl := close_near hck (a := F - h * St') (n := N') (by omega) (by omega)
    have hl62 : (s.length : Int) < 2 ^ 62 := by omega
    have hj := jntT_len s
    refine ⟨hl62, ⟨by omega, r0⟩, ⟨by decide, by decide, by decide⟩, ⟨by decide, by decide, by decide⟩, ⟨by decide, by decide, by decide⟩, hl62, fun c2 => ?_, fun c2 => ⟨⟨by omega, r5⟩, hl62, ⟨by decide, by omega, by omega⟩, ?_⟩⟩
    · rw [hE] at c2; cases c2
    · rw [hSh]
      have t1' : (stateS ([P', 2], shP (nrS F St' N' s) (mkB 0 1 1 1) P' (P' + 1).toNat 0 (-1) []) [h, 1] == 0) = !nrS F St' N' s h := by rw [← t1]; rfl
      rw [t1', t2]
      have e : (false || List.any (List.drop (Int.toNat 0) (jntT s)) (clB (F - h * St') N')) = nrS F St' N' s h := by rw [Bool.false_or]; exact hcl
      rw [e]
      refine ⟨fun _ => ⟨fun _ => rfl, fun c => (by cases c)⟩, fun c => ?_⟩
      simp at c)
end
end Go.MR
