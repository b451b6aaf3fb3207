/- Fractions compared, the greatest turn of a path; the law PathTurns. -/
import Derived.Test.YtoockflaeaknbaaMqI
import Derived.Test.YtoockflaeaknbaaMqF
namespace Go.MP
open Go Go.Sx Go.Proofs
set_option linter.unusedVariables false
set_option linter.unusedSimpArgs false
noncomputable section
def fgt (a b : K2) : Bool := decide (b.1 * a.2 < a.1 * b.2)
theorem fgt_step {n d m e : Int} (hd : 0 < d) (he : 0 < e) : (n / d ≠ m / e → (m * d < n * e ↔ m / e < n / d)) ∧ (n / d = m / e → (m * d < n * e ↔ (m % e) * d < (n % d) * e)) := by
  have h1 := Int.mul_ediv_add_emod n d
  have h2 := Int.mul_ediv_add_emod m e
  have h3 := Int.emod_nonneg n (show d ≠ 0 by omega)
  have h4 := Int.emod_lt_of_pos n hd
  have h5 := Int.emod_nonneg m (show e ≠ 0 by omega)
  have h6 := Int.emod_lt_of_pos m he
  generalize n / d = q at *
  generalize m / e = p at *
  generalize n % d = r at *
  generalize m % e = s at *
  have e1 : n * e = d * e * q + r * e := by rw [← h1]; grind
  have e2 : m * d = d * e * p + s * d := by rw [← h2]; grind
  have b1 : 0 ≤ r * e := Int.mul_nonneg h3 (by omega)
  have b2 : 0 ≤ s * d := Int.mul_nonneg h5 (by omega)
  have b3 : r * e < d * e := Int.mul_lt_mul_of_pos_right h4 he
  have b4 : s * d < d * e := by
    have := Int.mul_lt_mul_of_pos_right h6 hd
    rw [Int.mul_comm e d] at this; exact this
  have hde := Int.mul_pos hd he
  refine ⟨fun hne => ⟨fun h => ?_, fun h => ?_⟩, fun heq => ?_⟩
  · rcases Int.lt_or_le p q with hpq | hpq
    · exact hpq
    · have : q ≤ p - 1 := by omega
      have := Int.mul_le_mul_of_nonneg_left this (show 0 ≤ d * e by omega)
      rw [Int.mul_sub, Int.mul_one] at this
      omega
  · have : p ≤ q - 1 := by omega
    have := Int.mul_le_mul_of_nonneg_left this (show 0 ≤ d * e by omega)
    rw [Int.mul_sub, Int.mul_one] at this
    omega
  · rw [e1, e2, heq]; omega
def okF (a : K2) : Prop := 0 ≤ a.1 ∧ 0 < a.2 ∧ a.1 < 2 ^ 62 ∧ a.2 < 2 ^ 62
def L_gcd : Lay := { slots := [(0, .val tI), (1, .val tI)] }
def L_gcd_0 : Lay := { slots := [(0, .val tI)] }
def X_gcd : Exit → St → Option Lay
  | .exit 0, _ => some L_gcd_0
  | _, _ => none
abbrev C_gcd : Code := loopC (bodyOf Try.f100) 0
theorem B_gcd (a b : Int) : loopBodyA (P := P) [] (lpOf []) [] 12 noU (inner C_gcd) L_gcd X_gcd (α := Int × Int × Unit) (fun x => x) (fun x => x) (a, b, ()) =
  Tree.cond (decide (b > (0 : Int))) (Tree.need (b ≠ (0 : Int)) (Tree.leaf (Sum.inl (b, Int.tmod a b, PUnit.unit)))) (Tree.leaf (Sum.inr (Exit.exit (0 : Nat), Lay.st L_gcd_0 noU (a, PUnit.unit)))) := by kernel_rfl
def inv_gcd : Int × Int × Unit → Prop := fun (a, b, _) => 0 ≤ a ∧ 0 ≤ b
def O_gcd : Int × Int × Unit → Tree (Exit × St) := fun (a, b, _) => .leaf (.exit 0, L_gcd_0.st noU (gcdI a b, ()))
def R_gcd : LRun := runOf 12 L_gcd (fun x => x) (inv_gcd) (O_gcd)
theorem K_gcd : LoopOk P [] 12 none noU C_gcd (R_gcd) := by
  refine loop_of hm (cx := []) [] (xl := X_gcd) (α := Int × Int × Unit) (fun x => x) (fun (a, b, _) => b.toNat) (fun _ => rfl) (by kernel_rfl) (by kernel_rfl) ?_ (by kernel_rfl) trivial ?_
  · intro e S L' h
    unfold X_gcd at h
    split at h <;> first | (cases h; done) | (cases h; kernel_rfl) | (rcases bif_some h with h | h <;> cases h <;> kernel_rfl)
  · rintro ⟨a, b, ⟨⟩⟩ hinv Q hQ
    refine hold_of_eq (B_gcd a b) ?_
    obtain ⟨h0, h1⟩ := hinv
    refine ⟨fun h => ?_, fun h => ?_⟩
    · simp only [decide_eq_true_eq] at h
      refine ⟨by omega, ⟨⟨by omega, Int.tmod_nonneg b h0⟩, ?_⟩, ?_⟩
      · have h4 : Int.tmod a b < b := Int.tmod_lt_of_pos a h
        show Int.toNat (Int.tmod a b) < Int.toNat b
        omega
      · show Tree.holds Q (Tree.leaf (.exit 0, L_gcd_0.st noU (gcdI b (Int.tmod a b), ())))
        rw [gcdI_step h0 h]; exact hQ
    · simp only [decide_eq_false_iff_not] at h
      have hb : b = 0 := by omega
      have e : a = gcdI a b := by
        rw [hb]
        unfold gcdI
        simp only [Int.toNat_zero, Nat.gcd_zero_right]
        omega
      rw [e]
      unfold O_gcd at hQ
      dsimp only at hQ
      rw [← e] at hQ ⊢
      exact hQ
theorem T_gcd (a b : Int) : fnTree (P := P) [] (lpOf [(0, R_gcd)]) Try.f100 (encL 0 [.val tI, .val tI] (a, b, ())) =
  Tree.need (inv_gcd (a, b, ())) (Tree.leaf (SV.int IntKind.i64 (gcdI a b))) := by kernel_rfl
def c_gcd : PC P := PC.of (α := Int × Int × Unit) 100 [.val tI, .val tI] (fun x => x) (fun x => x) (fun _ => rfl)
  (fun x => some (0 ≤ x.1 ∧ 0 ≤ x.2.1))
  (fun x => .int .i64 (gcdI x.1 x.2.1)) (by kernel_rfl) (by
    rintro ⟨a, b, ⟨⟩⟩ hp
    refine fn_of hm (by kernel_rfl) (by kernel_rfl) (T_gcd a b) ⟨K_gcd, trivial⟩ ?_
    exact ⟨hp, rfl⟩)
theorem long_leg2 (v : V) : (longS v).2 = (legS v).2 ∧ ((legS v).2 = true → (longS v).1 = (wholeS v).1) := by
  unfold longS
  split
  · exact ⟨rfl, fun _ => rfl⟩
  · rename_i hi
    have : (legS v).2 = false := by
      rw [Bool.eq_false_iff]
      intro h
      obtain ⟨h1, h2, h3⟩ := legS_true h
      exact hi (inB_of_whole h1 h3)
    rw [this]
    exact ⟨rfl, fun h => by cases h⟩
theorem T_rTurn (x y z a b c : Int) : fnTree (P := P) [c_rlong.gc, c_rDot.gc, c_gcd.gc] (lpOf []) Try.f65 (encL 0 [.agg tV, .agg tV] ((x, y, z), (a, b, c), ())) =
  Tree.cond (!(longS (x, y, z)).snd) (Tree.leaf (SV.tup [SV.agg [SV.int IntKind.i64 (0 : Int), SV.int IntKind.i64 (0 : Int)], SV.int IntKind.i64 (3 : Int)])) (Tree.cond (!(longS (a, b, c)).snd) (Tree.leaf (SV.tup [SV.agg [SV.int IntKind.i64 (0 : Int), SV.int IntKind.i64 (0 : Int)], SV.int IntKind.i64 (3 : Int)])) (Tree.need ((0 : Int) ≤ IntKind.wrap IntKind.i64 (IntKind.wrap IntKind.i64 ((longS (x, y, z)).fst * (longS (a, b, c)).fst) - vdot (x, y, z) (a, b, c)) ∧ (0 : Int) ≤ IntKind.wrap IntKind.i64 ((longS (x, y, z)).fst * (longS (a, b, c)).fst)) (Tree.need (gcdI (IntKind.wrap IntKind.i64 (IntKind.wrap IntKind.i64 ((longS (x, y, z)).fst * (longS (a, b, c)).fst) - vdot (x, y, z) (a, b, c))) (IntKind.wrap IntKind.i64 ((longS (x, y, z)).fst * (longS (a, b, c)).fst)) ≠ (0 : Int)) (Tree.need (gcdI (IntKind.wrap IntKind.i64 (IntKind.wrap IntKind.i64 ((longS (x, y, z)).fst * (longS (a, b, c)).fst) - vdot (x, y, z) (a, b, c))) (IntKind.wrap IntKind.i64 ((longS (x, y, z)).fst * (longS (a, b, c)).fst)) ≠ (0 : Int)) (Tree.leaf (SV.tup [SV.agg [SV.int IntKind.i64 (IntKind.wrap IntKind.i64 (Int.tdiv (IntKind.wrap IntKind.i64 (IntKind.wrap IntKind.i64 ((longS (x, y, z)).fst * (longS (a, b, c)).fst) - vdot (x, y, z) (a, b, c))) (gcdI (IntKind.wrap IntKind.i64 (IntKind.wrap IntKind.i64 ((longS (x, y, z)).fst * (longS (a, b, c)).fst) - vdot (x, y, z) (a, b, c))) (IntKind.wrap IntKind.i64 ((longS (x, y, z)).fst * (longS (a, b, c)).fst))))), SV.int IntKind.i64 (IntKind.wrap IntKind.i64 (Int.tdiv (IntKind.wrap IntKind.i64 ((longS (x, y, z)).fst * (longS (a, b, c)).fst)) (gcdI (IntKind.wrap IntKind.i64 (IntKind.wrap IntKind.i64 ((longS (x, y, z)).fst * (longS (a, b, c)).fst) - vdot (x, y, z) (a, b, c))) (IntKind.wrap IntKind.i64 ((longS (x, y, z)).fst * (longS (a, b, c)).fst)))))], SV.int IntKind.i64 (0 : Int)])))))) := by kernel_rfl
def c_rTurn : PC P := PC.of (α := V × V × Unit) 65 [.agg tV, .agg tV] (fun x => x) (fun x => x) (fun _ => rfl)
  (fun _ => none)
  (fun x => .tup [.agg [.int .i64 (TurnS x.1 x.2.1).1.1, .int .i64 (TurnS x.1 x.2.1).1.2], .int .i64 (TurnS x.1 x.2.1).2]) (by kernel_rfl) (by
    rintro ⟨⟨x, y, z⟩, ⟨a, b, c⟩, ⟨⟩⟩ hp
    refine fn_of hm (by kernel_rfl) (by kernel_rfl) (T_rTurn x y z a b c) trivial ?_
    show Tree.holds (fun s => s = SV.tup [.agg [.int .i64 (TurnS (x, y, z) (a, b, c)).1.1, .int .i64 (TurnS (x, y, z) (a, b, c)).1.2], .int .i64 (TurnS (x, y, z) (a, b, c)).2]) _
    unfold TurnS
    obtain ⟨l1, l2⟩ := long_leg2 (x, y, z)
    obtain ⟨m1, m2⟩ := long_leg2 (a, b, c)
    rw [l1, m1]
    refine ⟨fun h => ?_, fun h => ⟨fun h2 => ?_, fun h2 => ?_⟩⟩
    · simp only [Bool.not_eq_true'] at h
      rw [h, if_neg (by simp)]
      exact rfl
    · simp only [Bool.not_eq_true'] at h2
      rw [h2, if_neg (by simp)]
      exact rfl
    · simp only [Bool.not_eq_false'] at h h2
      obtain ⟨t1, t2, t3, t4, t5⟩ := turn_pre h h2
      rw [l2 h, m2 h2, t1, W_id (n := (wholeS (x, y, z)).1 * (wholeS (a, b, c)).1) (by omega) (by omega), W_id (n := (wholeS (x, y, z)).1 * (wholeS (a, b, c)).1 - dotZ (x, y, z) (a, b, c)) (by omega) (by omega), if_pos ⟨h, h2⟩]
      unfold turnS
      generalize (wholeS (x, y, z)).1 * (wholeS (a, b, c)).1 - dotZ (x, y, z) (a, b, c) = A at *
      generalize (wholeS (x, y, z)).1 * (wholeS (a, b, c)).1 = B at *
      have hg := gcdI_pos (a := A) t2
      have e1 := Int.tdiv_eq_ediv_of_nonneg t4 (b := gcdI A B)
      have e2 := Int.tdiv_eq_ediv_of_nonneg (show 0 ≤ B by omega) (b := gcdI A B)
      have b1 : 0 ≤ A / gcdI A B := Int.ediv_nonneg t4 (by omega)
      have b2 : 0 ≤ B / gcdI A B := Int.ediv_nonneg (by omega) (by omega)
      have b3 := Int.ediv_le_self (gcdI A B) t4
      have b4 := Int.ediv_le_self (gcdI A B) (show 0 ≤ B by omega)
      refine ⟨⟨t4, by omega⟩, by omega, by omega, ?_⟩
      show SV.tup [.agg [.int .i64 _, .int .i64 _], .int .i64 0] = SV.tup [.agg [.int .i64 (A / gcdI A B), .int .i64 (B / gcdI A B)], .int .i64 0]
      rw [e1, e2, W_id (n := A / gcdI A B) (by omega) (by omega), W_id (n := B / gcdI A B) (by omega) (by omega)])
def steepL : K2 → List V → K2
  | best, v :: w :: r => steepL (if fgt (turnS v w) best = true then turnS v w else best) (w :: r)
  | best, _ => best
def steepS (p : Pth) : K2 := if checkS p = 0 then steepL (0, 1) p.2 else (0, 0)
theorem legOk_leg {v : V} (h : legOk v) : (legS v).2 = true := by
  obtain ⟨h1, h2, h3⟩ := h
  unfold legS
  simp only [h1, Bool.true_and, Bool.and_eq_true, decide_eq_true_eq]
  omega
theorem turn_okF {v w : V} (hv : (legS v).2 = true) (hw : (legS w).2 = true) : okF (turnS v w) := by
  obtain ⟨_, t1, t2, t3, t4⟩ := turn_pre hv hw
  obtain ⟨f1, f2, _, _, _, f5, f6⟩ := lowS_facts t3 t1
  unfold turnS okF
  refine ⟨f1, by omega, by omega, by omega⟩
theorem drop_two {l : List V} {i : Int} (h0 : 1 ≤ i) (h : i < l.length) : l.drop (i - 1).toNat = l.getD (i - 1).toNat (0, 0, 0) :: l.getD i.toNat (0, 0, 0) :: l.drop (i + 1).toNat ∧ l.drop i.toNat = l.getD i.toNat (0, 0, 0) :: l.drop (i + 1).toNat := by
  have h1 := drop_step (0, 0, 0) (l := l) (i := i - 1) (by omega) (by omega)
  have h2 := drop_step (0, 0, 0) (l := l) (i := i) (by omega) h
  rw [show i - 1 + 1 = i by omega, h2] at h1
  exact ⟨h1, h2⟩
theorem steep_end {l : List V} {i : Int} {b : K2} (h0 : 1 ≤ i) (h : ¬ i < l.length) : steepL b (l.drop (i - 1).toNat) = b := by
  have hl : (l.drop (i - 1).toNat).length ≤ 1 := by rw [List.length_drop]; omega
  match hd : l.drop (i - 1).toNat, hl with
  | [], _ => rfl
  | [_], _ => rfl
end
end Go.MP
