/- PathDirections: a turn is 0 exactly for one direction, at most 2, and does not depend on order and lengths. -/
import Derived.Test.YtoockflaeaknbaaMqE
namespace Go.MP
open Go Go.Sx Go.Proofs
set_option linter.unusedVariables false
set_option linter.unusedSimpArgs false
noncomputable section
theorem gcdI_spec {a b : Int} (ha : 0 ≤ a) (hb : 0 < b) : gcdI a b * (lowS a b).1 = a ∧ gcdI a b * (lowS a b).2 = b := by
  have h1 : gcdI a b ∣ a := by
    have : ((Nat.gcd a.toNat b.toNat : Nat) : Int) ∣ ((a.toNat : Nat) : Int) := Int.natCast_dvd_natCast.2 (Nat.gcd_dvd_left _ _)
    rwa [show ((a.toNat : Nat) : Int) = a by omega] at this
  have h2 : gcdI a b ∣ b := by
    have : ((Nat.gcd a.toNat b.toNat : Nat) : Int) ∣ ((b.toNat : Nat) : Int) := Int.natCast_dvd_natCast.2 (Nat.gcd_dvd_right _ _)
    rwa [show ((b.toNat : Nat) : Int) = b by omega] at this
  exact ⟨Int.mul_ediv_cancel' h1, Int.mul_ediv_cancel' h2⟩
theorem gcdI_mul {a b c : Int} (ha : 0 ≤ a) (hb : 0 ≤ b) (hc : 0 ≤ c) : gcdI (c * a) (c * b) = c * gcdI a b := by
  unfold gcdI
  rw [Int.toNat_mul hc ha, Int.toNat_mul hc hb, Nat.gcd_mul_left, Int.natCast_mul]
  congr 1
  omega
theorem lowS_mul {a b c : Int} (ha : 0 ≤ a) (hb : 0 ≤ b) (hc : 0 < c) : lowS (c * a) (c * b) = lowS a b := by
  unfold lowS
  rw [gcdI_mul ha hb (by omega), Int.mul_ediv_mul_of_pos _ _ hc, Int.mul_ediv_mul_of_pos _ _ hc]
theorem lowS_facts {a b : Int} (ha : 0 ≤ a) (hb : 0 < b) : 0 ≤ (lowS a b).1 ∧ 1 ≤ (lowS a b).2 ∧ ((lowS a b).1 = 0 ↔ a = 0) ∧ ((lowS a b).1 = (lowS a b).2 ↔ a = b) ∧ (a ≤ 2 * b → (lowS a b).1 ≤ 2 * (lowS a b).2) ∧ (lowS a b).1 ≤ a ∧ (lowS a b).2 ≤ b := by
  obtain ⟨h1, h2⟩ := gcdI_spec ha hb
  have hg := gcdI_pos (a := a) hb
  generalize hN : (lowS a b).1 = N at *
  generalize hD : (lowS a b).2 = D at *
  generalize gcdI a b = g at *
  have hN0 : 0 ≤ N := by
    rcases Int.lt_or_le N 0 with h | h
    · have := Int.mul_neg_of_pos_of_neg hg h; omega
    · exact h
  have hD0 : 1 ≤ D := by
    rcases Int.lt_or_le 0 D with h | h
    · omega
    · have := Int.mul_nonpos_of_nonneg_of_nonpos (show 0 ≤ g by omega) h; omega
  refine ⟨hN0, hD0, ⟨fun h => by rw [← h1, h, Int.mul_zero], fun h => ?_⟩, ⟨fun h => by rw [← h1, ← h2, h], fun h => ?_⟩, fun h => ?_, ?_, ?_⟩
  · rw [h] at h1
    rcases Int.mul_eq_zero.1 h1 with h | h <;> omega
  · exact Int.eq_of_mul_eq_mul_left (show g ≠ 0 by omega) (by rw [h1, h2, h])
  · have e : g * N ≤ g * (2 * D) := by
      have : g * (2 * D) = 2 * (g * D) := by grind
      omega
    exact Int.le_of_mul_le_mul_left e hg
  · have : 1 * N ≤ g * N := Int.mul_le_mul_of_nonneg_right (by omega) hN0
    omega
  · have : 1 * D ≤ g * D := Int.mul_le_mul_of_nonneg_right (by omega) (by omega)
    omega
theorem inB_of_whole {v : V} {n : Int} (h : (wholeS v).2 = true) (h2 : (wholeS v).1 ≤ n) : inB v n = true := inB_mono (wholeS_true h).2.2.2.1 h2
theorem vmul_eq {v : V} {k A K : Int} (hv : inB v A = true) (hk : -K ≤ k ∧ k ≤ K) (hA : A * K ≤ 9000000000000000000) : vmul v k = (v.1 * k, v.2.1 * k, v.2.2 * k) := by
  rw [inB_iff] at hv
  have h1 := mulB hv.1 hk
  have h2 := mulB hv.2.1 hk
  have h3 := mulB hv.2.2 hk
  unfold vmul
  rw [W_id (n := v.1 * k) (by omega) (by omega), W_id (n := v.2.1 * k) (by omega) (by omega), W_id (n := v.2.2 * k) (by omega) (by omega)]
theorem whole_mul {v : V} {k : Int} (h : (wholeS v).2 = true) (h25 : (wholeS v).1 ≤ 25) (hk : 1 ≤ k) (hk2 : k ≤ 5000) : wholeS (vmul v k) = (k * (wholeS v).1, true) := by
  obtain ⟨h1, h2, h3, h4, _⟩ := wholeS_true h
  have hi := inB_of_whole h h25
  rw [vmul_eq hi (K := 5000) (by omega) (by decide)]
  rw [inB_iff] at hi
  have m1 := mulB hi.1 (b := k) (B := 5000) (by omega)
  have m2 := mulB hi.2.1 (b := k) (B := 5000) (by omega)
  have m3 := mulB hi.2.2 (b := k) (B := 5000) (by omega)
  have hin : inB (v.1 * k, v.2.1 * k, v.2.2 * k) 16777216 = true := by
    rw [inB_iff]
    exact ⟨⟨by dsimp only; omega, by dsimp only; omega⟩, ⟨by dsimp only; omega, by dsimp only; omega⟩, ⟨by dsimp only; omega, by dsimp only; omega⟩⟩
  have hm := mulB (a := k) (b := (wholeS v).1) (A := 5000) (B := 25) (by omega) (by omega)
  unfold wholeS at *
  rw [if_pos h1] at *
  rw [if_pos hin]
  have hpos : 0 ≤ k * (rootS (dotZ v v)).1 := Int.mul_nonneg (by omega) h2
  have e : k * (rootS (dotZ v v)).1 * (k * (rootS (dotZ v v)).1) = dotZ (v.1 * k, v.2.1 * k, v.2.2 * k) (v.1 * k, v.2.1 * k, v.2.2 * k) := by
    have e1 : dotZ (v.1 * k, v.2.1 * k, v.2.2 * k) (v.1 * k, v.2.1 * k, v.2.2 * k) = k * k * dotZ v v := by
      unfold dotZ
      dsimp only
      grind
    rw [e1, ← h3]
    grind
  refine rootS_eq hpos e ?_
  rw [← e]
  have := sq_mono hpos hm.2
  omega
theorem turn_scale {v w : V} {k l : Int} (hv : (wholeS v).2 = true) (hv1 : 1 ≤ (wholeS v).1) (hv2 : (wholeS v).1 ≤ 25) (hw : (wholeS w).2 = true) (hw1 : 1 ≤ (wholeS w).1) (hw2 : (wholeS w).1 ≤ 25)
    (hk : 1 ≤ k) (hk2 : k ≤ 5000) (hl : 1 ≤ l) (hl2 : l ≤ 5000) : TurnS (vmul w k) (vmul v l) = TurnS v w := by
  have e1 := whole_mul hw hw2 hk hk2
  have e2 := whole_mul hv hv2 hl hl2
  have mk := mulB (a := k) (b := (wholeS w).1) (A := 5000) (B := 25) (by omega) (by omega)
  have ml := mulB (a := l) (b := (wholeS v).1) (A := 5000) (B := 25) (by omega) (by omega)
  have pk := Int.mul_pos (show 0 < k by omega) (show 0 < (wholeS w).1 by omega)
  have pl := Int.mul_pos (show 0 < l by omega) (show 0 < (wholeS v).1 by omega)
  have a1 : (legS v).2 = true := by unfold legS; simp only [hv, Bool.true_and, Bool.and_eq_true, decide_eq_true_eq]; omega
  have a2 : (legS w).2 = true := by unfold legS; simp only [hw, Bool.true_and, Bool.and_eq_true, decide_eq_true_eq]; omega
  have a3 : (legS (vmul w k)).2 = true := by unfold legS; rw [e1]; simp only [Bool.true_and, Bool.and_eq_true, decide_eq_true_eq]; omega
  have a4 : (legS (vmul v l)).2 = true := by unfold legS; rw [e2]; simp only [Bool.true_and, Bool.and_eq_true, decide_eq_true_eq]; omega
  unfold TurnS
  rw [if_pos ⟨a3, a4⟩, if_pos ⟨a1, a2⟩]
  congr 1
  unfold turnS
  rw [e1, e2]
  dsimp only
  obtain ⟨_, t1, _, t2, _⟩ := turn_pre a1 a2
  rw [vmul_eq (inB_of_whole hw hw2) (K := 5000) (by omega) (by decide), vmul_eq (inB_of_whole hv hv2) (K := 5000) (by omega) (by decide)]
  have d : dotZ (w.1 * k, w.2.1 * k, w.2.2 * k) (v.1 * l, v.2.1 * l, v.2.2 * l) = (k * l) * dotZ v w := by
    unfold dotZ
    dsimp only
    grind
  have m : k * (wholeS w).1 * (l * (wholeS v).1) = (k * l) * ((wholeS v).1 * (wholeS w).1) := by grind
  rw [d, m, ← Int.mul_sub]
  exact lowS_mul t2 (by omega) (Int.mul_pos (by omega) (by omega))
theorem same_dir {v w : V} (hv : (legS v).2 = true) (hw : (legS w).2 = true) :
    (wholeS v).1 * (wholeS w).1 - dotZ v w = 0 ↔ (v.2.1 * w.2.2 = v.2.2 * w.2.1 ∧ v.2.2 * w.1 = v.1 * w.2.2 ∧ v.1 * w.2.1 = v.2.1 * w.1) ∧ 0 < dotZ v w := by
  obtain ⟨h1, h2, h3⟩ := legS_true hv
  obtain ⟨k1, k2, k3⟩ := legS_true hw
  obtain ⟨_, h5, h6, _, _⟩ := wholeS_true h1
  obtain ⟨_, k5, k6, _, _⟩ := wholeS_true k1
  have hp := Int.mul_pos (show 0 < (wholeS v).1 by omega) (show 0 < (wholeS w).1 by omega)
  have e2 : (wholeS v).1 * (wholeS w).1 * ((wholeS v).1 * (wholeS w).1) = dotZ v v * dotZ w w := by rw [← h6, ← k6]; grind
  have e3 : dotZ v w * dotZ v w + ((v.2.1 * w.2.2 - v.2.2 * w.2.1) * (v.2.1 * w.2.2 - v.2.2 * w.2.1) + (v.2.2 * w.1 - v.1 * w.2.2) * (v.2.2 * w.1 - v.1 * w.2.2) + (v.1 * w.2.1 - v.2.1 * w.1) * (v.1 * w.2.1 - v.2.1 * w.1)) = dotZ v v * dotZ w w := by
    unfold dotZ
    grind
  generalize (wholeS v).1 * (wholeS w).1 = m at *
  generalize dotZ v v * dotZ w w = q at *
  generalize dotZ v w = d at *
  have s1 := sq_nonneg (v.2.1 * w.2.2 - v.2.2 * w.2.1)
  have s2 := sq_nonneg (v.2.2 * w.1 - v.1 * w.2.2)
  have s3 := sq_nonneg (v.1 * w.2.1 - v.2.1 * w.1)
  have z : ∀ x : Int, x * x = 0 → x = 0 := fun x hx => by rcases Int.mul_eq_zero.1 hx with h | h <;> exact h
  constructor
  · intro h
    have hd : d = m := by omega
    subst hd
    have z1 := z (v.2.1 * w.2.2 - v.2.2 * w.2.1) (by omega)
    have z2 := z (v.2.2 * w.1 - v.1 * w.2.2) (by omega)
    have z3 := z (v.1 * w.2.1 - v.2.1 * w.1) (by omega)
    exact ⟨⟨by omega, by omega, by omega⟩, hp⟩
  · rintro ⟨⟨c1, c2, c3⟩, hd⟩
    have z1 : v.2.1 * w.2.2 - v.2.2 * w.2.1 = 0 := by omega
    have z2 : v.2.2 * w.1 - v.1 * w.2.2 = 0 := by omega
    have z3 : v.1 * w.2.1 - v.2.1 * w.1 = 0 := by omega
    rw [z1, z2, z3] at e3
    have e : d * d = m * m := by omega
    have a1 := sq_le (a := d) (b := m) (by omega) (by omega)
    have a2 := sq_le (a := m) (b := d) (by omega) (by omega)
    omega
end
end Go.MP
