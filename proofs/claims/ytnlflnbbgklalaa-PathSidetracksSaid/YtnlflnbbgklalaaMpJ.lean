/- Fractions compared, the greatest turn of a path; the law PathTurns. -/
import Derived.Test.YtnlflnbbgklalaaMpI
import Derived.Test.YtnlflnbbgklalaaMpF
namespace Go.MP
open Go Go.Sx Go.Proofs
set_option linter.unusedVariables false
set_option linter.unusedSimpArgs false
noncomputable section

/-- The fraction a is greater than b. -/
def fgt (a b : K2) : Bool := decide (b.1 * a.2 < a.1 * b.2)

theorem fgt_step {n d m e : Int} (hd : 0 < d) (he : 0 < e) : (n / d ≠ m / e → (m * d < n * e ↔ m / e < n / d)) ∧ (n / d = m / e → (m * d < n * e ↔ (m % e) * d < (n % d) * e)) := by
  have h1 := Int.mul_ediv_add_emod n d
  have h2 := Int.mul_ediv_add_emod m e
  have h3 := Int.emod_nonneg n (show d ≠ 0 by omega)
  have h4 := Int.emod_lt_of_pos n hd
  have h5 := Int.emod_nonneg m (show e ≠ 0 by omega)
  have h6 := Int.emod_lt_of_pos m he
  generalize n / d = q at *
  generalize m / e = p at *
  generalize n % d = r at *
  generalize m % e = s at *
  have e1 : n * e = d * e * q + r * e := by rw [← h1]; grind
  have e2 : m * d = d * e * p + s * d := by rw [← h2]; grind
  have b1 : 0 ≤ r * e := Int.mul_nonneg h3 (by omega)
  have b2 : 0 ≤ s * d := Int.mul_nonneg h5 (by omega)
  have b3 : r * e < d * e := Int.mul_lt_mul_of_pos_right h4 he
  have b4 : s * d < d * e := by
    have := Int.mul_lt_mul_of_pos_right h6 hd
    rw [Int.mul_comm e d] at this; exact this
  have hde := Int.mul_pos hd he
  refine ⟨fun hne => ⟨fun h => ?_, fun h => ?_⟩, fun heq => ?_⟩
  · rcases Int.lt_or_le p q with hpq | hpq
    · exact hpq
    · have : q ≤ p - 1 := by omega
      have := Int.mul_le_mul_of_nonneg_left this (show 0 ≤ d * e by omega)
      rw [Int.mul_sub, Int.mul_one] at this
      omega
  · have : p ≤ q - 1 := by omega
    have := Int.mul_le_mul_of_nonneg_left this (show 0 ≤ d * e by omega)
    rw [Int.mul_sub, Int.mul_one] at this
    omega
  · rw [e1, e2, heq]; omega

def L_above : Lay := { slots := [(2, .ptr 3057 0), (3, .ptr 4057 0)], boxes := [(3057, [.val tI, .val tI]), (4057, [.val tI, .val tI])] }
def L_above_0 : Lay := { slots := [(4, .val .bool)] }
def X_above : Exit → Option Lay
  | .ret => some L_above_0
  | _ => none
abbrev C_above : Code := loopC (bodyOf Try.f99) 0
theorem B_above (n d m e : Int) : loopBodyA (P := P) [] (lpOf []) [] 57 noU (inner C_above) L_above X_above (α := Unit × Unit × Int × Int × Int × Int × Unit) (fun x => x) (fun x => x) ((), (), n, d, m, e, ()) =
  Tree.need (d ≠ (0 : Int)) (Tree.need (e ≠ (0 : Int)) (Tree.need (d ≠ (0 : Int)) (Tree.need (e ≠ (0 : Int)) (Tree.cond (IntKind.wrap IntKind.i64 (Int.tdiv n d) != IntKind.wrap IntKind.i64 (Int.tdiv m e)) (Tree.leaf (Sum.inr (Exit.ret, Lay.st L_above_0 noU (decide (IntKind.wrap IntKind.i64 (Int.tdiv n d) > IntKind.wrap IntKind.i64 (Int.tdiv m e)), PUnit.unit)))) (Tree.cond (Int.tmod n d == (0 : Int)) (Tree.cond (decide (Int.tmod n d > (0 : Int))) (Tree.leaf (Sum.inr (Exit.ret, Lay.st L_above_0 noU (Int.tmod m e == (0 : Int), PUnit.unit)))) (Tree.leaf (Sum.inr (Exit.ret, Lay.st L_above_0 noU (false, PUnit.unit))))) (Tree.cond (Int.tmod m e == (0 : Int)) (Tree.cond (decide (Int.tmod n d > (0 : Int))) (Tree.leaf (Sum.inr (Exit.ret, Lay.st L_above_0 noU (Int.tmod m e == (0 : Int), PUnit.unit)))) (Tree.leaf (Sum.inr (Exit.ret, Lay.st L_above_0 noU (false, PUnit.unit))))) (Tree.leaf (Sum.inl (PUnit.unit, PUnit.unit, e, Int.tmod m e, d, Int.tmod n d, PUnit.unit))))))))) := by kernel_rfl

def inv_above : Unit × Unit × Int × Int × Int × Int × Unit → Prop := fun (_, _, n, d, m, e, _) => 0 ≤ n ∧ 0 < d ∧ 0 ≤ m ∧ 0 < e ∧ n < 2 ^ 62 ∧ d < 2 ^ 62 ∧ m < 2 ^ 62 ∧ e < 2 ^ 62
def O_above : Unit × Unit × Int × Int × Int × Int × Unit → Tree (Exit × St) := fun (_, _, n, d, m, e, _) => .leaf (.ret, L_above_0.st noU (fgt (n, d) (m, e), ()))
def R_above : LRun := runOf 57 L_above (fun x => x) (inv_above) (O_above)
theorem K_above : LoopOk P [] 57 none noU C_above (R_above) := by
  refine loop_of hm (cx := []) [] (xl := X_above) (α := Unit × Unit × Int × Int × Int × Int × Unit) (fun x => x) (fun (_, _, n, d, m, e, _) => (d + e).toNat) (fun _ => rfl) (by kernel_rfl) (by kernel_rfl) ?_ (by kernel_rfl) trivial ?_
  · intro e L' h
    unfold X_above at h
    split at h <;> cases h <;> kernel_rfl
  · rintro ⟨⟨⟩, ⟨⟩, n, d, m, e, ⟨⟩⟩ hinv Q hQ
    refine hold_of_eq (B_above n d m e) ?_

    obtain ⟨h0, h1, h2, h3, h4, h5, h6, h7⟩ := hinv
    obtain ⟨s1, s2⟩ := fgt_step (n := n) (d := d) (m := m) (e := e) h1 h3
    have t1 := Int.tdiv_eq_ediv_of_nonneg h0 (b := d)
    have t2 := Int.tdiv_eq_ediv_of_nonneg h2 (b := e)
    have t3 := Int.tmod_eq_emod_of_nonneg h0 (b := d)
    have t4 := Int.tmod_eq_emod_of_nonneg h2 (b := e)
    have b1 := Int.ediv_nonneg h0 (show 0 ≤ d by omega)
    have b2 := Int.ediv_nonneg h2 (show 0 ≤ e by omega)
    have b3 := Int.ediv_le_self d h0
    have b4 := Int.ediv_le_self e h2
    have r3 := Int.emod_nonneg n (show d ≠ 0 by omega)
    have r4 := Int.emod_lt_of_pos n h1
    have r5 := Int.emod_nonneg m (show e ≠ 0 by omega)
    have r6 := Int.emod_lt_of_pos m h3
    rw [t1, t2, t3, t4, W_id (n := n / d) (by omega) (by omega), W_id (n := m / e) (by omega) (by omega)]
    have key : fgt (n, d) (m, e) = decide (m * d < n * e) := rfl
    unfold O_above at hQ
    dsimp only at hQ
    rw [key] at hQ
    clear t1 t2 t3 t4
    generalize n / d = q at *
    generalize m / e = p at *
    generalize hr : n % d = r at *
    generalize hs : m % e = s at *
    refine ⟨by omega, by omega, by omega, by omega, fun hne => ?_, fun heq => ⟨fun h => ?_, fun h => ⟨fun k => ?_, fun k => ?_⟩⟩⟩
    · simp only [bne_iff_ne, ne_eq] at hne
      rw [decide_eq_decide.2 (s1 hne)] at hQ
      exact hQ
    · simp only [bne_eq_false_iff_eq] at heq
      simp only [beq_iff_eq] at h
      rw [decide_eq_decide.2 (s2 heq), decide_eq_false (by rw [h]; have := Int.mul_nonneg r5 (show 0 ≤ d by omega); omega)] at hQ
      refine ⟨fun h' => ?_, fun h' => hQ⟩
      simp only [decide_eq_true_eq] at h'
      omega
    · simp only [bne_eq_false_iff_eq] at heq
      simp only [beq_eq_false_iff_ne, ne_eq] at h
      simp only [beq_iff_eq] at k
      rw [decide_eq_decide.2 (s2 heq), decide_eq_true (by rw [k]; have := Int.mul_pos (show 0 < r by omega) h3; omega)] at hQ
      refine ⟨fun h' => ?_, fun h' => ?_⟩
      · rw [k]; exact hQ
      · simp only [decide_eq_false_iff_not] at h'
        omega
    · simp only [bne_eq_false_iff_eq] at heq
      simp only [beq_eq_false_iff_ne, ne_eq] at h k
      rw [decide_eq_decide.2 (s2 heq)] at hQ
      refine ⟨⟨⟨by omega, by omega, by omega, by omega, by omega, by omega, by omega, by omega⟩, by show (s + r).toNat < (d + e).toNat; omega⟩, ?_⟩
      have e3 : fgt (e, s) (d, r) = decide (s * d < r * e) := by
        unfold fgt
        rw [decide_eq_decide, Int.mul_comm d s, Int.mul_comm e r]
      show Tree.holds Q (Tree.leaf (.ret, L_above_0.st noU (fgt (e, s) (d, r), ())))
      rw [e3]; exact hQ

def okF (a : K2) : Prop := 0 ≤ a.1 ∧ 0 < a.2 ∧ a.1 < 2 ^ 62 ∧ a.2 < 2 ^ 62

theorem T_above (n d m e : Int) : fnTree (P := P) [] (lpOf [(0, R_above)]) Try.f99 (encL 0 [.agg tPart, .agg tPart] ((n, d), (m, e), ())) =
  Tree.need (inv_above ((), (), n, d, m, e, ())) (Tree.leaf (SV.bool (fgt (n, d) (m, e)))) := by kernel_rfl

def c_above : PC P := PC.of (α := K2 × K2 × Unit) 99 [.agg tPart, .agg tPart] (fun x => x) (fun x => x) (fun _ => rfl)
  (fun x => some (okF x.1 ∧ okF x.2.1))
  (fun x => .bool (fgt x.1 x.2.1)) (by kernel_rfl) (by
    rintro ⟨⟨n, d⟩, ⟨m, e⟩, ⟨⟩⟩ hp
    refine fn_of hm (by kernel_rfl) (by kernel_rfl) (T_above n d m e) ⟨K_above, trivial⟩ ?_

    obtain ⟨⟨a1, a2, a3, a4⟩, b1, b2, b3, b4⟩ : okF (n, d) ∧ okF (m, e) := hp
    exact ⟨⟨a1, a2, b1, b2, a3, a4, b3, b4⟩, rfl⟩)

def L_Less : Lay := { slots := [(2, .ptr 3047 0), (3, .ptr 4047 0)], boxes := [(3047, [.val tI, .val tI]), (4047, [.val tI, .val tI])] }
def L_Less_0 : Lay := { slots := [(4, .val .bool)] }
def X_Less : Exit → Option Lay
  | .ret => some L_Less_0
  | _ => none
abbrev C_Less : Code := loopC (bodyOf Try.f100) 0
theorem B_Less (m e n d : Int) : loopBodyA (P := P) [] (lpOf []) [] 47 noU (inner C_Less) L_Less X_Less (α := Unit × Unit × Int × Int × Int × Int × Unit) (fun x => x) (fun x => x) ((), (), m, e, n, d, ()) =
  Tree.need (e ≠ (0 : Int)) (Tree.need (d ≠ (0 : Int)) (Tree.cond (IntKind.wrap IntKind.i64 (Int.tdiv m e) != IntKind.wrap IntKind.i64 (Int.tdiv n d)) (Tree.leaf (Sum.inr (Exit.ret, Lay.st L_Less_0 noU (decide (IntKind.wrap IntKind.i64 (Int.tdiv m e) < IntKind.wrap IntKind.i64 (Int.tdiv n d)), PUnit.unit)))) (Tree.need (e ≠ (0 : Int)) (Tree.need (d ≠ (0 : Int)) (Tree.cond (Int.tmod n d == (0 : Int)) (Tree.leaf (Sum.inr (Exit.ret, Lay.st L_Less_0 noU (false, PUnit.unit)))) (Tree.cond (Int.tmod m e == (0 : Int)) (Tree.leaf (Sum.inr (Exit.ret, Lay.st L_Less_0 noU (true, PUnit.unit)))) (Tree.leaf (Sum.inl (PUnit.unit, PUnit.unit, d, Int.tmod n d, e, Int.tmod m e, PUnit.unit))))))))) := by kernel_rfl

def inv_Less : Unit × Unit × Int × Int × Int × Int × Unit → Prop := fun (_, _, m, e, n, d, _) => 0 ≤ n ∧ 0 < d ∧ 0 ≤ m ∧ 0 < e ∧ n < 2 ^ 62 ∧ d < 2 ^ 62 ∧ m < 2 ^ 62 ∧ e < 2 ^ 62
def O_Less : Unit × Unit × Int × Int × Int × Int × Unit → Tree (Exit × St) := fun (_, _, m, e, n, d, _) => .leaf (.ret, L_Less_0.st noU (fgt (n, d) (m, e), ()))
def R_Less : LRun := runOf 47 L_Less (fun x => x) (inv_Less) (O_Less)
theorem K_Less : LoopOk P [] 47 none noU C_Less (R_Less) := by
  refine loop_of hm (cx := []) [] (xl := X_Less) (α := Unit × Unit × Int × Int × Int × Int × Unit) (fun x => x) (fun (_, _, m, e, n, d, _) => (d + e).toNat) (fun _ => rfl) (by kernel_rfl) (by kernel_rfl) ?_ (by kernel_rfl) trivial ?_
  · intro e L' h
    unfold X_Less at h
    split at h <;> cases h <;> kernel_rfl
  · rintro ⟨⟨⟩, ⟨⟩, m, e, n, d, ⟨⟩⟩ hinv Q hQ
    refine hold_of_eq (B_Less m e n d) ?_

    obtain ⟨h0, h1, h2, h3, h4, h5, h6, h7⟩ := hinv
    obtain ⟨s1, s2⟩ := fgt_step (n := n) (d := d) (m := m) (e := e) h1 h3
    have t1 := Int.tdiv_eq_ediv_of_nonneg h0 (b := d)
    have t2 := Int.tdiv_eq_ediv_of_nonneg h2 (b := e)
    have t3 := Int.tmod_eq_emod_of_nonneg h0 (b := d)
    have t4 := Int.tmod_eq_emod_of_nonneg h2 (b := e)
    have b1 := Int.ediv_nonneg h0 (show 0 ≤ d by omega)
    have b2 := Int.ediv_nonneg h2 (show 0 ≤ e by omega)
    have b3 := Int.ediv_le_self d h0
    have b4 := Int.ediv_le_self e h2
    have r3 := Int.emod_nonneg n (show d ≠ 0 by omega)
    have r4 := Int.emod_lt_of_pos n h1
    have r5 := Int.emod_nonneg m (show e ≠ 0 by omega)
    have r6 := Int.emod_lt_of_pos m h3
    rw [t1, t2, t3, t4, W_id (n := n / d) (by omega) (by omega), W_id (n := m / e) (by omega) (by omega)]
    have key : fgt (n, d) (m, e) = decide (m * d < n * e) := rfl
    unfold O_Less at hQ
    dsimp only at hQ
    rw [key] at hQ
    clear t1 t2 t3 t4
    generalize n / d = q at *
    generalize m / e = p at *
    generalize hr : n % d = r at *
    generalize hs : m % e = s at *
    refine ⟨by omega, by omega, fun hne => ?_, fun heq => ⟨by omega, by omega, fun h => ?_, fun h => ⟨fun k => ?_, fun k => ?_⟩⟩⟩
    · simp only [bne_iff_ne, ne_eq] at hne
      rw [decide_eq_decide.2 (s1 (fun x => hne x.symm))] at hQ
      exact hQ
    · simp only [bne_eq_false_iff_eq] at heq
      simp only [beq_iff_eq] at h
      rw [decide_eq_decide.2 (s2 heq.symm), decide_eq_false (by rw [h]; have := Int.mul_nonneg r5 (show 0 ≤ d by omega); omega)] at hQ
      exact hQ
    · simp only [bne_eq_false_iff_eq] at heq
      simp only [beq_eq_false_iff_ne, ne_eq] at h
      simp only [beq_iff_eq] at k
      rw [decide_eq_decide.2 (s2 heq.symm), decide_eq_true (by rw [k]; have := Int.mul_pos (show 0 < r by omega) h3; omega)] at hQ
      exact hQ
    · simp only [bne_eq_false_iff_eq] at heq
      simp only [beq_eq_false_iff_ne, ne_eq] at h k
      rw [decide_eq_decide.2 (s2 heq.symm)] at hQ
      refine ⟨⟨⟨by omega, by omega, by omega, by omega, by omega, by omega, by omega, by omega⟩, by show (s + r).toNat < (d + e).toNat; omega⟩, ?_⟩
      have e3 : fgt (e, s) (d, r) = decide (s * d < r * e) := by
        unfold fgt
        rw [decide_eq_decide, Int.mul_comm d s, Int.mul_comm e r]
      show Tree.holds Q (Tree.leaf (.ret, L_Less_0.st noU (fgt (e, s) (d, r), ())))
      rw [e3]; exact hQ

theorem T_Less (n d m e : Int) : fnTree (P := P) [] (lpOf [(0, R_Less)]) Try.f100 (encL 0 [.agg tPart, .agg tPart] ((n, d), (m, e), ())) =
  Tree.need (inv_Less ((), (), n, d, m, e, ())) (Tree.leaf (SV.bool (fgt (m, e) (n, d)))) := by kernel_rfl

def c_Less : PC P := PC.of (α := K2 × K2 × Unit) 100 [.agg tPart, .agg tPart] (fun x => x) (fun x => x) (fun _ => rfl)
  (fun x => some (okF x.1 ∧ okF x.2.1))
  (fun x => .bool (fgt x.2.1 x.1)) (by kernel_rfl) (by
    rintro ⟨⟨n, d⟩, ⟨m, e⟩, ⟨⟩⟩ hp
    refine fn_of hm (by kernel_rfl) (by kernel_rfl) (T_Less n d m e) ⟨K_Less, trivial⟩ ?_

    obtain ⟨⟨a1, a2, a3, a4⟩, b1, b2, b3, b4⟩ : okF (n, d) ∧ okF (m, e) := hp
    exact ⟨⟨b1, b2, a1, a2, b3, b4, a3, a4⟩, rfl⟩)

/-! ### The reference's turn -/
def L_gcd : Lay := { slots := [(0, .val tI), (1, .val tI)] }
def L_gcd_0 : Lay := { slots := [(0, .val tI)] }
def X_gcd : Exit → Option Lay
  | .exit 0 => some L_gcd_0
  | _ => none
abbrev C_gcd : Code := loopC (bodyOf Try.f98) 0
theorem B_gcd (a b : Int) : loopBodyA (P := P) [] (lpOf []) [] 12 noU (inner C_gcd) L_gcd X_gcd (α := Int × Int × Unit) (fun x => x) (fun x => x) (a, b, ()) =
  Tree.cond (decide (b > (0 : Int))) (Tree.need (b ≠ (0 : Int)) (Tree.leaf (Sum.inl (b, Int.tmod a b, PUnit.unit)))) (Tree.leaf (Sum.inr (Exit.exit (0 : Nat), Lay.st L_gcd_0 noU (a, PUnit.unit)))) := by kernel_rfl

def inv_gcd : Int × Int × Unit → Prop := fun (a, b, _) => 0 ≤ a ∧ 0 ≤ b
def O_gcd : Int × Int × Unit → Tree (Exit × St) := fun (a, b, _) => .leaf (.exit 0, L_gcd_0.st noU (gcdI a b, ()))
def R_gcd : LRun := runOf 12 L_gcd (fun x => x) (inv_gcd) (O_gcd)
theorem K_gcd : LoopOk P [] 12 none noU C_gcd (R_gcd) := by
  refine loop_of hm (cx := []) [] (xl := X_gcd) (α := Int × Int × Unit) (fun x => x) (fun (a, b, _) => b.toNat) (fun _ => rfl) (by kernel_rfl) (by kernel_rfl) ?_ (by kernel_rfl) trivial ?_
  · intro e L' h
    unfold X_gcd at h
    split at h <;> cases h <;> kernel_rfl
  · rintro ⟨a, b, ⟨⟩⟩ hinv Q hQ
    refine hold_of_eq (B_gcd a b) ?_

    obtain ⟨h0, h1⟩ := hinv
    refine ⟨fun h => ?_, fun h => ?_⟩
    · simp only [decide_eq_true_eq] at h
      refine ⟨by omega, ⟨⟨by omega, Int.tmod_nonneg b h0⟩, ?_⟩, ?_⟩
      · have h4 : Int.tmod a b < b := Int.tmod_lt_of_pos a h
        show Int.toNat (Int.tmod a b) < Int.toNat b
        omega
      · show Tree.holds Q (Tree.leaf (.exit 0, L_gcd_0.st noU (gcdI b (Int.tmod a b), ())))
        rw [gcdI_step h0 h]; exact hQ
    · simp only [decide_eq_false_iff_not] at h
      have hb : b = 0 := by omega
      have e : a = gcdI a b := by
        rw [hb]
        unfold gcdI
        simp only [Int.toNat_zero, Nat.gcd_zero_right]
        omega
      rw [e]
      unfold O_gcd at hQ
      dsimp only at hQ
      rw [← e] at hQ ⊢
      exact hQ

theorem T_gcd (a b : Int) : fnTree (P := P) [] (lpOf [(0, R_gcd)]) Try.f98 (encL 0 [.val tI, .val tI] (a, b, ())) =
  Tree.need (inv_gcd (a, b, ())) (Tree.leaf (SV.int IntKind.i64 (gcdI a b))) := by kernel_rfl

def c_gcd : PC P := PC.of (α := Int × Int × Unit) 98 [.val tI, .val tI] (fun x => x) (fun x => x) (fun _ => rfl)
  (fun x => some (0 ≤ x.1 ∧ 0 ≤ x.2.1))
  (fun x => .int .i64 (gcdI x.1 x.2.1)) (by kernel_rfl) (by
    rintro ⟨a, b, ⟨⟩⟩ hp
    refine fn_of hm (by kernel_rfl) (by kernel_rfl) (T_gcd a b) ⟨K_gcd, trivial⟩ ?_

    exact ⟨hp, rfl⟩)

theorem long_leg2 (v : V) : (longS v).2 = (legS v).2 ∧ ((legS v).2 = true → (longS v).1 = (wholeS v).1) := by
  unfold longS
  split
  · exact ⟨rfl, fun _ => rfl⟩
  · rename_i hi
    have : (legS v).2 = false := by
      rw [Bool.eq_false_iff]
      intro h
      obtain ⟨h1, h2, h3⟩ := legS_true h
      exact hi (inB_of_whole h1 h3)
    rw [this]
    exact ⟨rfl, fun h => by cases h⟩

theorem T_rTurn (x y z a b c : Int) : fnTree (P := P) [c_rlong.gc, c_rDot.gc, c_gcd.gc] (lpOf []) Try.f42 (encL 0 [.agg tV, .agg tV] ((x, y, z), (a, b, c), ())) =
  Tree.cond (!(longS (x, y, z)).snd) (Tree.leaf (SV.tup [SV.agg [SV.int IntKind.i64 (0 : Int), SV.int IntKind.i64 (0 : Int)], SV.int IntKind.i64 (3 : Int)])) (Tree.cond (!(longS (a, b, c)).snd) (Tree.leaf (SV.tup [SV.agg [SV.int IntKind.i64 (0 : Int), SV.int IntKind.i64 (0 : Int)], SV.int IntKind.i64 (3 : Int)])) (Tree.need ((0 : Int) ≤ IntKind.wrap IntKind.i64 (IntKind.wrap IntKind.i64 ((longS (x, y, z)).fst * (longS (a, b, c)).fst) - vdot (x, y, z) (a, b, c)) ∧ (0 : Int) ≤ IntKind.wrap IntKind.i64 ((longS (x, y, z)).fst * (longS (a, b, c)).fst)) (Tree.need (gcdI (IntKind.wrap IntKind.i64 (IntKind.wrap IntKind.i64 ((longS (x, y, z)).fst * (longS (a, b, c)).fst) - vdot (x, y, z) (a, b, c))) (IntKind.wrap IntKind.i64 ((longS (x, y, z)).fst * (longS (a, b, c)).fst)) ≠ (0 : Int)) (Tree.need (gcdI (IntKind.wrap IntKind.i64 (IntKind.wrap IntKind.i64 ((longS (x, y, z)).fst * (longS (a, b, c)).fst) - vdot (x, y, z) (a, b, c))) (IntKind.wrap IntKind.i64 ((longS (x, y, z)).fst * (longS (a, b, c)).fst)) ≠ (0 : Int)) (Tree.leaf (SV.tup [SV.agg [SV.int IntKind.i64 (IntKind.wrap IntKind.i64 (Int.tdiv (IntKind.wrap IntKind.i64 (IntKind.wrap IntKind.i64 ((longS (x, y, z)).fst * (longS (a, b, c)).fst) - vdot (x, y, z) (a, b, c))) (gcdI (IntKind.wrap IntKind.i64 (IntKind.wrap IntKind.i64 ((longS (x, y, z)).fst * (longS (a, b, c)).fst) - vdot (x, y, z) (a, b, c))) (IntKind.wrap IntKind.i64 ((longS (x, y, z)).fst * (longS (a, b, c)).fst))))), SV.int IntKind.i64 (IntKind.wrap IntKind.i64 (Int.tdiv (IntKind.wrap IntKind.i64 ((longS (x, y, z)).fst * (longS (a, b, c)).fst)) (gcdI (IntKind.wrap IntKind.i64 (IntKind.wrap IntKind.i64 ((longS (x, y, z)).fst * (longS (a, b, c)).fst) - vdot (x, y, z) (a, b, c))) (IntKind.wrap IntKind.i64 ((longS (x, y, z)).fst * (longS (a, b, c)).fst)))))], SV.int IntKind.i64 (0 : Int)])))))) := by kernel_rfl

def c_rTurn : PC P := PC.of (α := V × V × Unit) 42 [.agg tV, .agg tV] (fun x => x) (fun x => x) (fun _ => rfl)
  (fun _ => none)
  (fun x => .tup [.agg [.int .i64 (TurnS x.1 x.2.1).1.1, .int .i64 (TurnS x.1 x.2.1).1.2], .int .i64 (TurnS x.1 x.2.1).2]) (by kernel_rfl) (by
    rintro ⟨⟨x, y, z⟩, ⟨a, b, c⟩, ⟨⟩⟩ hp
    refine fn_of hm (by kernel_rfl) (by kernel_rfl) (T_rTurn x y z a b c) trivial ?_

    show Tree.holds (fun s => s = SV.tup [.agg [.int .i64 (TurnS (x, y, z) (a, b, c)).1.1, .int .i64 (TurnS (x, y, z) (a, b, c)).1.2], .int .i64 (TurnS (x, y, z) (a, b, c)).2]) _
    unfold TurnS
    obtain ⟨l1, l2⟩ := long_leg2 (x, y, z)
    obtain ⟨m1, m2⟩ := long_leg2 (a, b, c)
    rw [l1, m1]
    refine ⟨fun h => ?_, fun h => ⟨fun h2 => ?_, fun h2 => ?_⟩⟩
    · simp only [Bool.not_eq_true'] at h
      rw [h, if_neg (by simp)]
      exact rfl
    · simp only [Bool.not_eq_true'] at h2
      rw [h2, if_neg (by simp)]
      exact rfl
    · simp only [Bool.not_eq_false'] at h h2
      obtain ⟨t1, t2, t3, t4, t5⟩ := turn_pre h h2
      rw [l2 h, m2 h2, t1, W_id (n := (wholeS (x, y, z)).1 * (wholeS (a, b, c)).1) (by omega) (by omega), W_id (n := (wholeS (x, y, z)).1 * (wholeS (a, b, c)).1 - dotZ (x, y, z) (a, b, c)) (by omega) (by omega), if_pos ⟨h, h2⟩]
      unfold turnS
      generalize (wholeS (x, y, z)).1 * (wholeS (a, b, c)).1 - dotZ (x, y, z) (a, b, c) = A at *
      generalize (wholeS (x, y, z)).1 * (wholeS (a, b, c)).1 = B at *
      have hg := gcdI_pos (a := A) t2
      have e1 := Int.tdiv_eq_ediv_of_nonneg t4 (b := gcdI A B)
      have e2 := Int.tdiv_eq_ediv_of_nonneg (show 0 ≤ B by omega) (b := gcdI A B)
      have b1 : 0 ≤ A / gcdI A B := Int.ediv_nonneg t4 (by omega)
      have b2 : 0 ≤ B / gcdI A B := Int.ediv_nonneg (by omega) (by omega)
      have b3 := Int.ediv_le_self (gcdI A B) t4
      have b4 := Int.ediv_le_self (gcdI A B) (show 0 ≤ B by omega)
      refine ⟨⟨t4, by omega⟩, by omega, by omega, ?_⟩
      show SV.tup [.agg [.int .i64 _, .int .i64 _], .int .i64 0] = SV.tup [.agg [.int .i64 (A / gcdI A B), .int .i64 (B / gcdI A B)], .int .i64 0]
      rw [e1, e2, W_id (n := A / gcdI A B) (by omega) (by omega), W_id (n := B / gcdI A B) (by omega) (by omega)])

/-! ### The greatest turn -/
def steepL : K2 → List V → K2
  | best, v :: w :: r => steepL (if fgt (turnS v w) best = true then turnS v w else best) (w :: r)
  | best, _ => best
def steepS (p : Pth) : K2 := if checkS p = 0 then steepL (0, 1) p.2 else (0, 0)

theorem legOk_leg {v : V} (h : legOk v) : (legS v).2 = true := by
  obtain ⟨h1, h2, h3⟩ := h
  unfold legS
  simp only [h1, Bool.true_and, Bool.and_eq_true, decide_eq_true_eq]
  omega
theorem turn_okF {v w : V} (hv : (legS v).2 = true) (hw : (legS w).2 = true) : okF (turnS v w) := by
  obtain ⟨_, t1, t2, t3, t4⟩ := turn_pre hv hw
  obtain ⟨f1, f2, _, _, _, f5, f6⟩ := lowS_facts t3 t1
  unfold turnS okF
  refine ⟨f1, by omega, by omega, by omega⟩
theorem drop_two {l : List V} {i : Int} (h0 : 1 ≤ i) (h : i < l.length) : l.drop (i - 1).toNat = l.getD (i - 1).toNat (0, 0, 0) :: l.getD i.toNat (0, 0, 0) :: l.drop (i + 1).toNat ∧ l.drop i.toNat = l.getD i.toNat (0, 0, 0) :: l.drop (i + 1).toNat := by
  have h1 := drop_step (0, 0, 0) (l := l) (i := i - 1) (by omega) (by omega)
  have h2 := drop_step (0, 0, 0) (l := l) (i := i) (by omega) h
  rw [show i - 1 + 1 = i by omega, h2] at h1
  exact ⟨h1, h2⟩
theorem steep_end {l : List V} {i : Int} {b : K2} (h0 : 1 ≤ i) (h : ¬ i < l.length) : steepL b (l.drop (i - 1).toNat) = b := by
  have hl : (l.drop (i - 1).toNat).length ≤ 1 := by rw [List.length_drop]; omega
  match hd : l.drop (i - 1).toNat, hl with
  | [], _ => rfl
  | [_], _ => rfl

def L_Steepest : Lay := { slots := [(1, .ptr 2035 0), (2, .ptr 3035 0), (3, .ptr 4035 0), (4, .val tI)], boxes := [(2035, [.val tI, .val tI, .val tI, .val tVs]), (3035, [.any, .any]), (4035, [.val tI, .val tI])] }
def L_Steepest_0 : Lay := { slots := [(2, .ptr 3035 0), (3, .ptr 4035 0)], boxes := [(3035, [.any, .any]), (4035, [.val tI, .val tI])] }
def X_Steepest : Exit → Option Lay
  | .exit 0 => some L_Steepest_0
  | _ => none
abbrev C_Steepest : Code := loopC (bodyOf Try.f43) 0
theorem B_Steepest (i x y z : Int) (l : List V) (n d : Int) : loopBodyA (P := P) [c_turn.gc, c_above.gc] (lpOf []) [] 35 noU (inner C_Steepest) L_Steepest X_Steepest (α := Unit × Unit × Unit × Int × Int × Int × Int × List V × Unit × Unit × Int × Int × Unit) (fun x => x) (fun x => x) ((), (), (), i, x, y, z, l, (), (), n, d, ()) =
  Tree.cond (decide (i < (↑(List.length l) : Int))) (Tree.need ((0 : Int) ≤ IntKind.wrap IntKind.i64 (i - (1 : Int)) ∧ IntKind.wrap IntKind.i64 (i - (1 : Int)) < (↑(List.length l) : Int)) (Tree.need ((0 : Int) ≤ i ∧ i < (↑(List.length l) : Int)) (Tree.need ((legS (List.getD l (Int.toNat (IntKind.wrap IntKind.i64 (i - (1 : Int)))) ((0 : Int), (0 : Int), (0 : Int)))).snd = true ∧ (legS (List.getD l (Int.toNat i) ((0 : Int), (0 : Int), (0 : Int)))).snd = true) (Tree.need (okF (turnS (List.getD l (Int.toNat (IntKind.wrap IntKind.i64 (i - (1 : Int)))) ((0 : Int), (0 : Int), (0 : Int))) (List.getD l (Int.toNat i) ((0 : Int), (0 : Int), (0 : Int)))) ∧ okF (n, d)) (Tree.cond (fgt (turnS (List.getD l (Int.toNat (IntKind.wrap IntKind.i64 (i - (1 : Int)))) ((0 : Int), (0 : Int), (0 : Int))) (List.getD l (Int.toNat i) ((0 : Int), (0 : Int), (0 : Int)))) (n, d)) (Tree.leaf (Sum.inl (PUnit.unit, PUnit.unit, PUnit.unit, IntKind.wrap IntKind.i64 (i + (1 : Int)), x, y, z, l, PUnit.unit, PUnit.unit, (turnS (List.getD l (Int.toNat (IntKind.wrap IntKind.i64 (i - (1 : Int)))) ((0 : Int), (0 : Int), (0 : Int))) (List.getD l (Int.toNat i) ((0 : Int), (0 : Int), (0 : Int)))).fst, (turnS (List.getD l (Int.toNat (IntKind.wrap IntKind.i64 (i - (1 : Int)))) ((0 : Int), (0 : Int), (0 : Int))) (List.getD l (Int.toNat i) ((0 : Int), (0 : Int), (0 : Int)))).snd, PUnit.unit))) (Tree.leaf (Sum.inl (PUnit.unit, PUnit.unit, PUnit.unit, IntKind.wrap IntKind.i64 (i + (1 : Int)), x, y, z, l, PUnit.unit, PUnit.unit, n, d, PUnit.unit)))))))) (Tree.leaf (Sum.inr (Exit.exit (0 : Nat), Lay.st L_Steepest_0 noU (PUnit.unit, PUnit.unit, PUnit.unit, PUnit.unit, n, d, PUnit.unit)))) := by kernel_rfl

def inv_Steepest : Unit × Unit × Unit × Int × Int × Int × Int × List V × Unit × Unit × Int × Int × Unit → Prop := fun (_, _, _, i, _, _, _, l, _, _, n, d, _) => 1 ≤ i ∧ i ≤ l.length + 1 ∧ l.length ≤ 20 ∧ (∀ v ∈ l, legOk v) ∧ okF (n, d)
def O_Steepest : Unit × Unit × Unit × Int × Int × Int × Int × List V × Unit × Unit × Int × Int × Unit → Tree (Exit × St) := fun (_, _, _, i, _, _, _, l, _, _, n, d, _) => .leaf (.exit 0, L_Steepest_0.st noU ((), (), (), (), (steepL (n, d) (l.drop (i - 1).toNat)).1, (steepL (n, d) (l.drop (i - 1).toNat)).2, ()))
def R_Steepest : LRun := runOf 35 L_Steepest (fun x => x) (inv_Steepest) (O_Steepest)
theorem K_Steepest : LoopOk P [] 35 none noU C_Steepest (R_Steepest) := by
  refine loop_of hm (cx := [c_turn.gc, c_above.gc]) [] (xl := X_Steepest) (α := Unit × Unit × Unit × Int × Int × Int × Int × List V × Unit × Unit × Int × Int × Unit) (fun x => x) (fun (_, _, _, i, _, _, _, l, _) => (l.length - i).toNat) (fun _ => rfl) (by kernel_rfl) (by kernel_rfl) ?_ (by kernel_rfl) trivial ?_
  · intro e L' h
    unfold X_Steepest at h
    split at h <;> cases h <;> kernel_rfl
  · rintro ⟨⟨⟩, ⟨⟩, ⟨⟩, i, x, y, z, l, ⟨⟩, ⟨⟩, n, d, ⟨⟩⟩ hinv Q hQ
    refine hold_of_eq (B_Steepest i x y z l n d) ?_

    obtain ⟨h0, h1, h2, h3, h4⟩ := hinv
    unfold O_Steepest at hQ
    dsimp only at hQ
    rw [W_id (n := i + 1) (by omega) (by omega), W_id (n := i - 1) (by omega) (by omega)]
    refine ⟨fun hi => ?_, fun hi => ?_⟩
    · simp only [decide_eq_true_eq] at hi
      obtain ⟨d1, d2⟩ := drop_two h0 hi
      have hv := legOk_leg (h3 _ (getD_mem (d := (0, 0, 0)) (show (i - 1).toNat < l.length by omega)))
      have hw := legOk_leg (h3 _ (getD_mem (d := (0, 0, 0)) (show i.toNat < l.length by omega)))
      have hok := turn_okF hv hw
      rw [d1, steepL, ← d2] at hQ
      generalize l.getD (i - 1).toNat (0, 0, 0) = v at *
      generalize l.getD i.toNat (0, 0, 0) = w at *
      have e1 : (i + 1 - 1).toNat = i.toNat := by omega
      refine ⟨⟨by omega, by omega⟩, ⟨by omega, hi⟩, ⟨hv, hw⟩, ⟨hok, h4⟩, fun h => ?_, fun h => ?_⟩
      · rw [if_pos h] at hQ
        refine ⟨⟨⟨by omega, by omega, h2, h3, hok⟩, by show ((l.length : Int) - (i + 1)).toNat < ((l.length : Int) - i).toNat; omega⟩, ?_⟩
        show Tree.holds Q (Tree.leaf (.exit 0, L_Steepest_0.st noU ((), (), (), (), (steepL (turnS v w) (l.drop (i + 1 - 1).toNat)).1, (steepL (turnS v w) (l.drop (i + 1 - 1).toNat)).2, ())))
        rw [e1]; exact hQ
      · rw [if_neg (by simp [h])] at hQ
        refine ⟨⟨⟨by omega, by omega, h2, h3, h4⟩, by show ((l.length : Int) - (i + 1)).toNat < ((l.length : Int) - i).toNat; omega⟩, ?_⟩
        show Tree.holds Q (Tree.leaf (.exit 0, L_Steepest_0.st noU ((), (), (), (), (steepL (n, d) (l.drop (i + 1 - 1).toNat)).1, (steepL (n, d) (l.drop (i + 1 - 1).toNat)).2, ())))
        rw [e1]; exact hQ
    · simp only [decide_eq_false_iff_not] at hi
      rw [steep_end h0 hi] at hQ
      exact hQ

theorem T_Steepest (x y z : Int) (l : List V) : fnTree (P := P) [c_Check.gc] (lpOf [(0, R_Steepest)]) Try.f43 (encL 0 [.agg tPath] (((x, y, z), l), ())) =
  Tree.cond (checkS ((x, y, z), l) != (0 : Int)) (Tree.leaf (SV.agg [SV.int IntKind.i64 (0 : Int), SV.int IntKind.i64 (0 : Int)])) (Tree.need (inv_Steepest ((), (), (), (1 : Int), x, y, z, l, (), (), (0 : Int), (1 : Int), ())) (Tree.leaf (SV.agg [SV.int IntKind.i64 (steepL ((0 : Int), (1 : Int)) (List.drop (Int.toNat ((1 : Int) - (1 : Int))) l)).fst, SV.int IntKind.i64 (steepL ((0 : Int), (1 : Int)) (List.drop (Int.toNat ((1 : Int) - (1 : Int))) l)).snd]))) := by kernel_rfl

def c_Steepest : PC P := PC.of (α := Pth × Unit) 43 [.agg tPath] (fun x => x) (fun x => x) (fun _ => rfl)
  (fun _ => none)
  (fun x => .agg [.int .i64 (steepS x.1).1, .int .i64 (steepS x.1).2]) (by kernel_rfl) (by
    rintro ⟨⟨⟨x, y, z⟩, l⟩, ⟨⟩⟩ hp
    refine fn_of hm (by kernel_rfl) (by kernel_rfl) (T_Steepest x y z l) ⟨K_Steepest, trivial⟩ ?_

    show Tree.holds (fun s => s = SV.agg [.int .i64 (steepS ((x, y, z), l)).1, .int .i64 (steepS ((x, y, z), l)).2]) _
    unfold steepS
    refine ⟨fun h => ?_, fun h => ?_⟩
    · simp only [bne_iff_ne, ne_eq] at h
      rw [if_neg h]
      exact rfl
    · simp only [bne_eq_false_iff_eq] at h
      rw [if_pos h]
      exact ⟨⟨by omega, by omega, checkS_len h, checkS_legs h, by decide, by decide, by decide, by decide⟩, rfl⟩)

def L_rSteepest : Lay := { slots := [(1, .ptr 2039 0), (2, .ptr 3039 0), (3, .ptr 4039 0), (4, .val tI)], boxes := [(2039, [.val tI, .val tI, .val tI, .val tVs]), (3039, [.any, .any]), (4039, [.val tI, .val tI])] }
def L_rSteepest_0 : Lay := { slots := [(2, .ptr 3039 0), (3, .ptr 4039 0)], boxes := [(3039, [.any, .any]), (4039, [.val tI, .val tI])] }
def X_rSteepest : Exit → Option Lay
  | .exit 0 => some L_rSteepest_0
  | _ => none
abbrev C_rSteepest : Code := loopC (bodyOf Try.f44) 0
theorem B_rSteepest (i x y z : Int) (l : List V) (n d : Int) : loopBodyA (P := P) [c_rTurn.gc, c_Less.gc] (lpOf []) [] 39 noU (inner C_rSteepest) L_rSteepest X_rSteepest (α := Unit × Unit × Unit × Int × Int × Int × Int × List V × Unit × Unit × Int × Int × Unit) (fun x => x) (fun x => x) ((), (), (), i, x, y, z, l, (), (), n, d, ()) =
  Tree.cond (decide (i < (↑(List.length l) : Int))) (Tree.need ((0 : Int) ≤ IntKind.wrap IntKind.i64 (i - (1 : Int)) ∧ IntKind.wrap IntKind.i64 (i - (1 : Int)) < (↑(List.length l) : Int)) (Tree.need ((0 : Int) ≤ i ∧ i < (↑(List.length l) : Int)) (Tree.need (okF (n, d) ∧ okF (TurnS (List.getD l (Int.toNat (IntKind.wrap IntKind.i64 (i - (1 : Int)))) ((0 : Int), (0 : Int), (0 : Int))) (List.getD l (Int.toNat i) ((0 : Int), (0 : Int), (0 : Int)))).fst) (Tree.cond (fgt (TurnS (List.getD l (Int.toNat (IntKind.wrap IntKind.i64 (i - (1 : Int)))) ((0 : Int), (0 : Int), (0 : Int))) (List.getD l (Int.toNat i) ((0 : Int), (0 : Int), (0 : Int)))).fst (n, d)) (Tree.leaf (Sum.inl (PUnit.unit, PUnit.unit, PUnit.unit, IntKind.wrap IntKind.i64 (i + (1 : Int)), x, y, z, l, PUnit.unit, PUnit.unit, (TurnS (List.getD l (Int.toNat (IntKind.wrap IntKind.i64 (i - (1 : Int)))) ((0 : Int), (0 : Int), (0 : Int))) (List.getD l (Int.toNat i) ((0 : Int), (0 : Int), (0 : Int)))).fst.fst, (TurnS (List.getD l (Int.toNat (IntKind.wrap IntKind.i64 (i - (1 : Int)))) ((0 : Int), (0 : Int), (0 : Int))) (List.getD l (Int.toNat i) ((0 : Int), (0 : Int), (0 : Int)))).fst.snd, PUnit.unit))) (Tree.leaf (Sum.inl (PUnit.unit, PUnit.unit, PUnit.unit, IntKind.wrap IntKind.i64 (i + (1 : Int)), x, y, z, l, PUnit.unit, PUnit.unit, n, d, PUnit.unit))))))) (Tree.leaf (Sum.inr (Exit.exit (0 : Nat), Lay.st L_rSteepest_0 noU (PUnit.unit, PUnit.unit, PUnit.unit, PUnit.unit, n, d, PUnit.unit)))) := by kernel_rfl

def inv_rSteepest : Unit × Unit × Unit × Int × Int × Int × Int × List V × Unit × Unit × Int × Int × Unit → Prop := fun (_, _, _, i, _, _, _, l, _, _, n, d, _) => 1 ≤ i ∧ i ≤ l.length + 1 ∧ l.length ≤ 20 ∧ (∀ v ∈ l, legOk v) ∧ okF (n, d)
def O_rSteepest : Unit × Unit × Unit × Int × Int × Int × Int × List V × Unit × Unit × Int × Int × Unit → Tree (Exit × St) := fun (_, _, _, i, _, _, _, l, _, _, n, d, _) => .leaf (.exit 0, L_rSteepest_0.st noU ((), (), (), (), (steepL (n, d) (l.drop (i - 1).toNat)).1, (steepL (n, d) (l.drop (i - 1).toNat)).2, ()))
def R_rSteepest : LRun := runOf 39 L_rSteepest (fun x => x) (inv_rSteepest) (O_rSteepest)
theorem K_rSteepest : LoopOk P [] 39 none noU C_rSteepest (R_rSteepest) := by
  refine loop_of hm (cx := [c_rTurn.gc, c_Less.gc]) [] (xl := X_rSteepest) (α := Unit × Unit × Unit × Int × Int × Int × Int × List V × Unit × Unit × Int × Int × Unit) (fun x => x) (fun (_, _, _, i, _, _, _, l, _) => (l.length - i).toNat) (fun _ => rfl) (by kernel_rfl) (by kernel_rfl) ?_ (by kernel_rfl) trivial ?_
  · intro e L' h
    unfold X_rSteepest at h
    split at h <;> cases h <;> kernel_rfl
  · rintro ⟨⟨⟩, ⟨⟩, ⟨⟩, i, x, y, z, l, ⟨⟩, ⟨⟩, n, d, ⟨⟩⟩ hinv Q hQ
    refine hold_of_eq (B_rSteepest i x y z l n d) ?_

    obtain ⟨h0, h1, h2, h3, h4⟩ := hinv
    unfold O_rSteepest at hQ
    dsimp only at hQ
    rw [W_id (n := i + 1) (by omega) (by omega), W_id (n := i - 1) (by omega) (by omega)]
    refine ⟨fun hi => ?_, fun hi => ?_⟩
    · simp only [decide_eq_true_eq] at hi
      obtain ⟨d1, d2⟩ := drop_two h0 hi
      have hv := legOk_leg (h3 _ (getD_mem (d := (0, 0, 0)) (show (i - 1).toNat < l.length by omega)))
      have hw := legOk_leg (h3 _ (getD_mem (d := (0, 0, 0)) (show i.toNat < l.length by omega)))
      have hok := turn_okF hv hw
      rw [d1, steepL, ← d2] at hQ
      generalize l.getD (i - 1).toNat (0, 0, 0) = v at *
      generalize l.getD i.toNat (0, 0, 0) = w at *
      have hT : TurnS v w = (turnS v w, 0) := if_pos ⟨hv, hw⟩
      rw [hT]
      have e1 : (i + 1 - 1).toNat = i.toNat := by omega
      refine ⟨⟨by omega, by omega⟩, ⟨by omega, hi⟩, ⟨h4, hok⟩, fun h => ?_, fun h => ?_⟩
      · rw [if_pos h] at hQ
        refine ⟨⟨⟨by omega, by omega, h2, h3, hok⟩, by show ((l.length : Int) - (i + 1)).toNat < ((l.length : Int) - i).toNat; omega⟩, ?_⟩
        show Tree.holds Q (Tree.leaf (.exit 0, L_rSteepest_0.st noU ((), (), (), (), (steepL (turnS v w) (l.drop (i + 1 - 1).toNat)).1, (steepL (turnS v w) (l.drop (i + 1 - 1).toNat)).2, ())))
        rw [e1]; exact hQ
      · rw [if_neg (by simp [h])] at hQ
        refine ⟨⟨⟨by omega, by omega, h2, h3, h4⟩, by show ((l.length : Int) - (i + 1)).toNat < ((l.length : Int) - i).toNat; omega⟩, ?_⟩
        show Tree.holds Q (Tree.leaf (.exit 0, L_rSteepest_0.st noU ((), (), (), (), (steepL (n, d) (l.drop (i + 1 - 1).toNat)).1, (steepL (n, d) (l.drop (i + 1 - 1).toNat)).2, ())))
        rw [e1]; exact hQ
    · simp only [decide_eq_false_iff_not] at hi
      rw [steep_end h0 hi] at hQ
      exact hQ

theorem T_rSteepest (x y z : Int) (l : List V) : fnTree (P := P) [c_rCheck.gc] (lpOf [(0, R_rSteepest)]) Try.f44 (encL 0 [.agg tPath] (((x, y, z), l), ())) =
  Tree.cond (checkS ((x, y, z), l) != (0 : Int)) (Tree.leaf (SV.agg [SV.int IntKind.i64 (0 : Int), SV.int IntKind.i64 (0 : Int)])) (Tree.need (inv_rSteepest ((), (), (), (1 : Int), x, y, z, l, (), (), (0 : Int), (1 : Int), ())) (Tree.leaf (SV.agg [SV.int IntKind.i64 (steepL ((0 : Int), (1 : Int)) (List.drop (Int.toNat ((1 : Int) - (1 : Int))) l)).fst, SV.int IntKind.i64 (steepL ((0 : Int), (1 : Int)) (List.drop (Int.toNat ((1 : Int) - (1 : Int))) l)).snd]))) := by kernel_rfl

def c_rSteepest : PC P := PC.of (α := Pth × Unit) 44 [.agg tPath] (fun x => x) (fun x => x) (fun _ => rfl)
  (fun _ => none)
  (fun x => .agg [.int .i64 (steepS x.1).1, .int .i64 (steepS x.1).2]) (by kernel_rfl) (by
    rintro ⟨⟨⟨x, y, z⟩, l⟩, ⟨⟩⟩ hp
    refine fn_of hm (by kernel_rfl) (by kernel_rfl) (T_rSteepest x y z l) ⟨K_rSteepest, trivial⟩ ?_

    show Tree.holds (fun s => s = SV.agg [.int .i64 (steepS ((x, y, z), l)).1, .int .i64 (steepS ((x, y, z), l)).2]) _
    unfold steepS
    refine ⟨fun h => ?_, fun h => ?_⟩
    · simp only [bne_iff_ne, ne_eq] at h
      rw [if_neg h]
      exact rfl
    · simp only [bne_eq_false_iff_eq] at h
      rw [if_pos h]
      exact ⟨⟨by omega, by omega, checkS_len h, checkS_legs h, by decide, by decide, by decide, by decide⟩, rfl⟩)

def L_PathTurns : Lay := { slots := [(5, .ptr 6085 0), (6, .ptr 7085 0), (7, .ptr 8085 0), (9, .val (.sl tI)), (10, .val tI)], boxes := [(6085, [.val tI, .val tI, .val tI]), (7085, [.val tI, .val tI, .val tI]), (8085, [.val tI, .val tI, .val tI, .val tVs])] }
def L_PathTurns_0 : Lay := { slots := [(5, .ptr 6085 0), (6, .ptr 7085 0), (7, .ptr 8085 0)], boxes := [(6085, [.val tI, .val tI, .val tI]), (7085, [.val tI, .val tI, .val tI]), (8085, [.val tI, .val tI, .val tI, .val tVs])] }
def L_PathTurns_1 : Lay := { slots := [(8, .val .bool)] }
def X_PathTurns : Exit → Option Lay
  | .exit 0 => some L_PathTurns_0
  | .ret => some L_PathTurns_1
  | _ => none
abbrev C_PathTurns : Code := loopC (bodyOf Try.f7) 0
theorem B_PathTurns (m : List Int) (k a b c d e f x y z : Int) (l : List V) : loopBodyA (P := P) [c_root.gc, c_rRoot.gc] (lpOf []) [] 85 noU (inner C_PathTurns) L_PathTurns X_PathTurns (α := Unit × Unit × Unit × List Int × Int × Int × Int × Int × Int × Int × Int × Int × Int × Int × List V × Unit) (fun x => x) (fun x => x) ((), (), (), m, k, a, b, c, d, e, f, x, y, z, l, ()) =
  Tree.cond (decide (k < (2 : Int))) (Tree.need ((0 : Int) ≤ k ∧ k < (↑(List.length m) : Int)) (Tree.need ((0 : Int) ≤ k ∧ k < (↑(List.length m) : Int)) (Tree.cond ((rootS (List.getD m (Int.toNat k) (0 : Int))).fst != (rootS (List.getD m (Int.toNat k) (0 : Int))).fst) (Tree.leaf (Sum.inr (Exit.ret, Lay.st L_PathTurns_1 noU (false, PUnit.unit)))) (Tree.cond (!(rootS (List.getD m (Int.toNat k) (0 : Int))).snd == (rootS (List.getD m (Int.toNat k) (0 : Int))).snd) (Tree.leaf (Sum.inr (Exit.ret, Lay.st L_PathTurns_1 noU (false, PUnit.unit)))) (Tree.leaf (Sum.inl (PUnit.unit, PUnit.unit, PUnit.unit, m, IntKind.wrap IntKind.i64 (k + (1 : Int)), a, b, c, d, e, f, x, y, z, l, PUnit.unit))))))) (Tree.leaf (Sum.inr (Exit.exit (0 : Nat), Lay.st L_PathTurns_0 noU (PUnit.unit, PUnit.unit, PUnit.unit, a, b, c, d, e, f, x, y, z, l, PUnit.unit)))) := by kernel_rfl

def inv_PathTurns : Unit × Unit × Unit × List Int × Int × Int × Int × Int × Int × Int × Int × Int × Int × Int × List V × Unit → Prop := fun (_, _, _, m, k, _) => m.length = 2 ∧ 0 ≤ k ∧ k ≤ 2
def O_PathTurns : Unit × Unit × Unit × List Int × Int × Int × Int × Int × Int × Int × Int × Int × Int × Int × List V × Unit → Tree (Exit × St) := fun (_, _, _, m, k, a, b, c, d, e, f, x, y, z, l, _) => .leaf (.exit 0, L_PathTurns_0.st noU ((), (), (), a, b, c, d, e, f, x, y, z, l, ()))
def R_PathTurns : LRun := runOf 85 L_PathTurns (fun x => x) (inv_PathTurns) (O_PathTurns)
theorem K_PathTurns : LoopOk P [] 85 none noU C_PathTurns (R_PathTurns) := by
  refine loop_of hm (cx := [c_root.gc, c_rRoot.gc]) [] (xl := X_PathTurns) (α := Unit × Unit × Unit × List Int × Int × Int × Int × Int × Int × Int × Int × Int × Int × Int × List V × Unit) (fun x => x) (fun (_, _, _, m, k, _) => (2 - k).toNat) (fun _ => rfl) (by kernel_rfl) (by kernel_rfl) ?_ (by kernel_rfl) trivial ?_
  · intro e L' h
    unfold X_PathTurns at h
    split at h <;> cases h <;> kernel_rfl
  · rintro ⟨⟨⟩, ⟨⟩, ⟨⟩, m, k, a, b, c, d, e, f, x, y, z, l, ⟨⟩⟩ hinv Q hQ
    refine hold_of_eq (B_PathTurns m k a b c d e f x y z l) ?_

    obtain ⟨h0, h1, h2⟩ := hinv
    rw [W_id (n := k + 1) (by omega) (by omega)]
    refine ⟨fun hi => ?_, fun hi => hQ⟩
    simp only [decide_eq_true_eq] at hi
    exact ⟨⟨h1, by omega⟩, ⟨h1, by omega⟩, fun h => by simp at h, fun _ => ⟨fun h => by simp at h, fun _ => ⟨⟨⟨h0, by omega, by omega⟩, by show (2 - (k + 1)).toNat < (2 - k).toNat; omega⟩, hQ⟩⟩⟩

theorem T_PathTurns (n a b c d e f x y z : Int) (l : List V) : fnTree (P := P) [c_BigPath.gc, c_awake.gc, c_Turn.gc, c_rTurn.gc, c_Steepest.gc, c_rSteepest.gc] (lpOf [(0, R_PathTurns)]) Try.f7 (encL 0 [.val tI, .agg tV, .agg tV, .agg tPath] (n, (a, b, c), (d, e, f), ((x, y, z), l), ())) =
  Tree.cond (decide ((↑(List.length l) : Int) > (24 : Int))) (Tree.leaf (SV.bool true)) (Tree.need (inv_PathTurns ((), (), (), [n, IntKind.wrap IntKind.i64 (n * n)], (0 : Int), a, b, c, d, e, f, x, y, z, l, ())) (Tree.cond ((TurnS (a, b, c) (d, e, f)).fst.fst == (TurnS (a, b, c) (d, e, f)).fst.fst && ((TurnS (a, b, c) (d, e, f)).fst.snd == (TurnS (a, b, c) (d, e, f)).fst.snd && true)) (Tree.cond ((TurnS (a, b, c) (d, e, f)).snd == (TurnS (a, b, c) (d, e, f)).snd) (Tree.cond ((steepS ((x, y, z), l)).fst == (steepS ((x, y, z), l)).fst && ((steepS ((x, y, z), l)).snd == (steepS ((x, y, z), l)).snd && true)) (Tree.leaf (SV.bool true)) (Tree.leaf (SV.bool false))) (Tree.leaf (SV.bool false))) (Tree.leaf (SV.bool false)))) := by kernel_rfl

def c_PathTurns : PC P := PC.of (α := Int × V × V × Pth × Unit) 7 [.val tI, .agg tV, .agg tV, .agg tPath] (fun x => x) (fun x => x) (fun _ => rfl)
  (fun _ => none)
  (fun x => .bool true) (by kernel_rfl) (by
    rintro ⟨n, ⟨a, b, c⟩, ⟨d, e, f⟩, ⟨⟨x, y, z⟩, l⟩, ⟨⟩⟩ hp
    refine fn_of hm (by kernel_rfl) (by kernel_rfl) (T_PathTurns n a b c d e f x y z l) ⟨K_PathTurns, trivial⟩ ?_

    exact ⟨fun _ => rfl, fun _ => ⟨⟨rfl, by omega, by omega⟩, fun _ => ⟨fun _ => ⟨fun _ => rfl, fun h => by simp at h⟩, fun h => by simp at h⟩, fun h => by simp at h⟩⟩)

end
end Go.MP
