/- A zonotope that has a box in it and that some normal separates from 0 is separated by a product of two of its generators. -/
import Derived.Test.YtnlflnbbgklalaaMpX
namespace Go.MP
open Go Go.Sx Go.Proofs
set_option linter.unusedVariables false
set_option linter.unusedSimpArgs false
noncomputable section

/-- A normal separates 0, to one side. -/
def sepP (c : V) (s : List V) (n : V) : Prop := reachZ n s < dotZ n c
def ng (v : V) : V := (-v.1, -v.2.1, -v.2.2)
theorem dot_ng (n g : V) : dotZ (ng n) g = -dotZ n g := by
  unfold dotZ ng
  simp only [Int.neg_mul]
  omega
theorem reach_ng (n : V) : ∀ s : List V, reachZ (ng n) s = reachZ n s
  | [] => rfl
  | g :: s => by rw [reachZ, reachZ, reach_ng n s, dot_ng, Int.natAbs_neg]
theorem sepZ_iff {c : V} {s : List V} {n : V} : sepZ c s n ↔ sepP c s n ∨ sepP c s (ng n) := by
  unfold sepZ sepP
  rw [reach_ng, dot_ng]
  have := reachZ_nonneg n s
  omega
theorem dot_zml (k : Int) (n g : V) : dotZ (zm k n) g = k * dotZ n g := by unfold dotZ zm; dsimp only; grind
theorem dot_zal (m n g : V) : dotZ (za m n) g = dotZ m g + dotZ n g := by unfold dotZ za; dsimp only; grind
theorem reach_zm {k : Int} (hk : 0 ≤ k) (n : V) : ∀ s : List V, reachZ (zm k n) s = k * reachZ n s
  | [] => by simp [reachZ]
  | g :: s => by
    rw [reachZ, reachZ, reach_zm hk n s, dot_zml, Int.natAbs_mul, Int.natCast_mul, Int.mul_add]
    have : ((k.natAbs : Nat) : Int) = k := by omega
    rw [this]
theorem sepP_zm {c : V} {s : List V} {n : V} {k : Int} (hk : 0 < k) : sepP c s (zm k n) ↔ sepP c s n := by
  unfold sepP
  rw [reach_zm (by omega), dot_zml]
  exact ⟨fun h => Int.lt_of_mul_lt_mul_left h (by omega), fun h => Int.mul_lt_mul_of_pos_left h hk⟩

/-! ### Along a line of normals -/
/-- How the reach turns along the line. -/
def tauZ (n d : V) : List V → Int
  | [] => 0
  | g :: s => (if dotZ n g * dotZ d g < 0 then -((dotZ d g).natAbs : Int) else ((dotZ d g).natAbs : Int)) + tauZ n d s
theorem min_ratio {α : Type} (a b : α → Int) (p : α → Prop) [DecidablePred p] (hb : ∀ x, p x → 0 < b x) (ha : ∀ x, 0 ≤ a x) : ∀ l : List α, (∃ x ∈ l, p x) → ∃ x ∈ l, p x ∧ ∀ y ∈ l, p y → a x * b y ≤ a y * b x
  | [], ⟨x, h, _⟩ => by cases h
  | u :: l, h => by
    by_cases hl : ∃ x ∈ l, p x
    · obtain ⟨x, hx, px, hm⟩ := min_ratio a b p hb ha l hl
      by_cases hu : p u ∧ a u * b x < a x * b u
      · refine ⟨u, by simp, hu.1, fun y hy py => ?_⟩
        rcases List.mem_cons.1 hy with rfl | hy
        · exact Int.le_refl _
        · have h1 := hm y hy py
          have bx := hb x px
          have bu := hb u hu.1
          have by' := hb y py
          have e1 := Int.mul_le_mul_of_nonneg_left h1 (show 0 ≤ b u by omega)
          have e2 := Int.mul_le_mul_of_nonneg_left (show a u * b x ≤ a x * b u by omega) (show 0 ≤ b y by omega)
          have e3 : b x * (a u * b y) ≤ b x * (a y * b u) := by
            have i1 : b x * (a u * b y) = b y * (a u * b x) := by grind
            have i2 : b y * (a x * b u) = b u * (a x * b y) := by grind
            have i3 : b u * (a y * b x) = b x * (a y * b u) := by grind
            omega
          exact Int.le_of_mul_le_mul_left e3 bx
      · refine ⟨x, by simp [hx], px, fun y hy py => ?_⟩
        rcases List.mem_cons.1 hy with rfl | hy
        · have : ¬ a y * b x < a x * b y := fun k => hu ⟨py, k⟩
          omega
        · exact hm y hy py
    · obtain ⟨x, hx, px⟩ := h
      rcases List.mem_cons.1 hx with rfl | hx
      · refine ⟨x, by simp, px, fun y hy py => ?_⟩
        rcases List.mem_cons.1 hy with rfl | hy
        · exact Int.le_refl _
        · exact absurd ⟨y, hy, py⟩ hl
      · exact absurd ⟨x, hx, px⟩ hl

theorem abs_mix {a b x y : Int} (hx : 0 ≤ x) (hy : 0 ≤ y) (hz : a = 0 → b = 0) (h : a * b < 0 → y * (b.natAbs : Int) ≤ x * (a.natAbs : Int)) :
    (((x * a + y * b).natAbs : Nat) : Int) = x * (a.natAbs : Int) + y * (if a * b < 0 then -(b.natAbs : Int) else (b.natAbs : Int)) := by
  by_cases hab : a * b < 0
  · rw [if_pos hab]
    have h := h hab
    rcases Int.lt_trichotomy a 0 with ha | ha | ha
    · have hb : 0 < b := by
        rcases Int.lt_or_le 0 b with k | k
        · exact k
        · have := Int.mul_nonneg_of_nonpos_of_nonpos (show a ≤ 0 by omega) k; omega
      have e1 : (a.natAbs : Int) = -a := by omega
      have e2 : (b.natAbs : Int) = b := by omega
      have i1 : x * (a.natAbs : Int) = -(x * a) := by rw [e1]; grind
      have i2 : y * (b.natAbs : Int) = y * b := by rw [e2]
      have i3 : y * -(b.natAbs : Int) = -(y * b) := by rw [e2]; grind
      omega
    · rw [ha] at hab; simp at hab
    · have hb : b < 0 := by
        rcases Int.lt_or_le b 0 with k | k
        · exact k
        · have := Int.mul_nonneg (show 0 ≤ a by omega) k; omega
      have e1 : (a.natAbs : Int) = a := by omega
      have e2 : (b.natAbs : Int) = -b := by omega
      have i1 : x * (a.natAbs : Int) = x * a := by rw [e1]
      have i2 : y * (b.natAbs : Int) = -(y * b) := by rw [e2]; grind
      have i3 : y * -(b.natAbs : Int) = y * b := by rw [e2]; grind
      omega
  · rw [if_neg hab]
    rcases Int.lt_trichotomy a 0 with ha | ha | ha
    · have hb : b ≤ 0 := by
        rcases Int.lt_or_le 0 b with k | k
        · have := Int.mul_neg_of_neg_of_pos ha k; omega
        · exact k
      have e1 : (a.natAbs : Int) = -a := by omega
      have e2 : (b.natAbs : Int) = -b := by omega
      rw [e1, e2]
      have i1 : x * -a = -(x * a) := by grind
      have i2 : y * -b = -(y * b) := by grind
      have p1 := Int.mul_nonneg hx (show 0 ≤ -a by omega)
      have p2 := Int.mul_nonneg hy (show 0 ≤ -b by omega)
      omega
    · have hb := hz ha
      rw [ha, hb]; simp
    · have hb : 0 ≤ b := by
        rcases Int.lt_or_le b 0 with k | k
        · have := Int.mul_neg_of_pos_of_neg ha k; omega
        · exact k
      have e1 : (a.natAbs : Int) = a := by omega
      have e2 : (b.natAbs : Int) = b := by omega
      rw [e1, e2]
      have p1 := Int.mul_nonneg hx (show 0 ≤ a by omega)
      have p2 := Int.mul_nonneg hy hb
      omega

theorem reach_mix {n d : V} {x y : Int} (hx : 0 ≤ x) (hy : 0 ≤ y) : ∀ s : List V, (∀ g ∈ s, dotZ n g = 0 → dotZ d g = 0) → (∀ g ∈ s, dotZ n g * dotZ d g < 0 → y * ((dotZ d g).natAbs : Int) ≤ x * ((dotZ n g).natAbs : Int)) →
    reachZ (za (zm x n) (zm y d)) s = x * reachZ n s + y * tauZ n d s
  | [], _, _ => by simp [reachZ, tauZ]
  | g :: s, hz, h => by
    rw [reachZ, reachZ, tauZ, reach_mix hx hy s (fun g hg => hz g (by simp [hg])) (fun g hg => h g (by simp [hg])), dot_zal, dot_zml, dot_zml, abs_mix hx hy (hz g (by simp)) (h g (by simp)), Int.mul_add, Int.mul_add]
    omega
theorem tau_ng (n d : V) : ∀ s : List V, (∀ g ∈ s, dotZ n g = 0 → dotZ d g = 0) → tauZ n (ng d) s = -tauZ n d s
  | [], _ => rfl
  | g :: s, h => by
    rw [tauZ, tauZ, tau_ng n d s (fun g hg => h g (by simp [hg])), dot_ng, Int.natAbs_neg]
    have h0 := h g (by simp)
    have e : dotZ n g * -dotZ d g = -(dotZ n g * dotZ d g) := by grind
    rw [e]
    by_cases h1 : dotZ n g * dotZ d g = 0
    · have hd : dotZ d g = 0 := by
        rcases Int.mul_eq_zero.1 h1 with k | k
        · exact h0 k
        · exact k
      rw [hd]; simp
    · split <;> split <;> omega
theorem tau_pos (n d : V) : ∀ s : List V, (∀ g ∈ s, ¬ dotZ n g * dotZ d g < 0) → tauZ n d s = reachZ d s
  | [], _ => rfl
  | g :: s, h => by rw [tauZ, reachZ, if_neg (h g (by simp)), tau_pos n d s fun g hg => h g (by simp [hg])]

/-- One way along the line. -/
theorem go_on {c : V} {s : List V} {n d : V} (hn : sepP c s n) (hz : ∀ g ∈ s, dotZ n g = 0 → dotZ d g = 0) (hS : tauZ n d s - dotZ d c ≤ 0) (he : ∃ g ∈ s, dotZ n g * dotZ d g < 0) :
    ∃ g ∈ s, dotZ d g ≠ 0 ∧ ∃ x y : Int, sepP c s (za (zm x n) (zm y d)) ∧ dotZ (za (zm x n) (zm y d)) g = 0 := by
  obtain ⟨g, hg, hp, hm⟩ := min_ratio (fun g => ((dotZ n g).natAbs : Int)) (fun g => ((dotZ d g).natAbs : Int)) (fun g => dotZ n g * dotZ d g < 0)
    (fun x hx => by
      have : dotZ d x ≠ 0 := fun k => by rw [k] at hx; simp at hx
      show 0 < ((dotZ d x).natAbs : Int)
      omega) (fun x => by show 0 ≤ ((dotZ n x).natAbs : Int); omega) s he
  have hd : dotZ d g ≠ 0 := fun k => by rw [k] at hp; simp at hp
  refine ⟨g, hg, hd, ((dotZ d g).natAbs : Int), ((dotZ n g).natAbs : Int), ?_, ?_⟩
  · unfold sepP at *
    rw [reach_mix (by omega) (by omega) s hz (fun y hy py => by have := hm y hy py; rw [Int.mul_comm ((dotZ d g).natAbs : Int)]; exact this), dot_zal, dot_zml, dot_zml]
    have h1 := Int.mul_lt_mul_of_pos_left hn (show 0 < ((dotZ d g).natAbs : Int) by omega)
    have h2 := Int.mul_le_mul_of_nonneg_left (show tauZ n d s ≤ dotZ d c by omega) (show 0 ≤ ((dotZ n g).natAbs : Int) by omega)
    omega
  · rw [dot_zal, dot_zml, dot_zml]
    generalize dotZ n g = a at *
    generalize dotZ d g = b at *
    rcases Int.lt_trichotomy a 0 with ha | ha | ha
    · have hb : 0 < b := by
        rcases Int.lt_or_le 0 b with k | k
        · exact k
        · have := Int.mul_nonneg_of_nonpos_of_nonpos (show a ≤ 0 by omega) k; omega
      rw [show (b.natAbs : Int) = b by omega, show (a.natAbs : Int) = -a by omega]
      grind
    · rw [ha] at hp; simp at hp
    · have hb : b < 0 := by
        rcases Int.lt_or_le b 0 with k | k
        · exact k
        · have := Int.mul_nonneg (show 0 ≤ a by omega) k; omega
      rw [show (b.natAbs : Int) = -b by omega, show (a.natAbs : Int) = a by omega]
      grind

theorem mix_ng (x y : Int) (n d : V) : za (zm x n) (zm y (ng d)) = za (zm x n) (zm (-y) d) := by
  unfold za zm ng
  simp [Int.neg_mul, Int.mul_neg]
theorem line_step {c : V} {s : List V} {n d : V} (hn : sepP c s n) (h1 : ¬ sepP c s d) (h2 : ¬ sepP c s (ng d)) (hb : ∃ g ∈ s, dotZ d g ≠ 0) :
    ∃ g ∈ s, dotZ d g ≠ 0 ∧ ∃ x y : Int, sepP c s (za (zm x n) (zm y d)) ∧ dotZ (za (zm x n) (zm y d)) g = 0 := by
  by_cases hz : ∀ g ∈ s, dotZ n g = 0 → dotZ d g = 0
  · have hd' : ∀ g, dotZ (ng d) g = -dotZ d g := dot_ng d
    have hz' : ∀ g ∈ s, dotZ n g = 0 → dotZ (ng d) g = 0 := fun g hg h => by rw [hd', hz g hg h]; rfl
    have back : (∃ g ∈ s, dotZ (ng d) g ≠ 0 ∧ ∃ x y : Int, sepP c s (za (zm x n) (zm y (ng d))) ∧ dotZ (za (zm x n) (zm y (ng d))) g = 0) →
        ∃ g ∈ s, dotZ d g ≠ 0 ∧ ∃ x y : Int, sepP c s (za (zm x n) (zm y d)) ∧ dotZ (za (zm x n) (zm y d)) g = 0 := by
      rintro ⟨g, hg, hne, x, y, k1, k2⟩
      rw [mix_ng] at k1 k2
      rw [hd'] at hne
      exact ⟨g, hg, by omega, x, -y, k1, k2⟩
    have t2 := tau_ng n d s hz
    unfold sepP at h1 h2
    rw [reach_ng, dot_ng] at h2
    by_cases hS : tauZ n d s - dotZ d c ≤ 0
    · by_cases he : ∃ g ∈ s, dotZ n g * dotZ d g < 0
      · exact go_on hn hz hS he
      · have tp := tau_pos n d s fun g hg k => he ⟨g, hg, k⟩
        refine back (go_on hn hz' (by rw [t2, dot_ng]; omega) ?_)
        obtain ⟨g, hg, hne⟩ := hb
        refine ⟨g, hg, ?_⟩
        rw [hd']
        have h0 : dotZ n g ≠ 0 := fun k => hne (hz g hg k)
        have h3 : ¬ dotZ n g * dotZ d g < 0 := fun k => he ⟨g, hg, k⟩
        have h4 : dotZ n g * dotZ d g ≠ 0 := fun k => (Int.mul_eq_zero.1 k).elim h0 hne
        have e : dotZ n g * -dotZ d g = -(dotZ n g * dotZ d g) := by grind
        omega
    · by_cases he : ∃ g ∈ s, dotZ n g * dotZ (ng d) g < 0
      · exact back (go_on hn hz' (by rw [t2, dot_ng]; omega) he)
      · have tp := tau_pos n (ng d) s fun g hg k => he ⟨g, hg, k⟩
        rw [t2, reach_ng] at tp
        omega
  · have : ∃ g ∈ s, dotZ n g = 0 ∧ dotZ d g ≠ 0 := by
      rcases Classical.em (∃ g ∈ s, dotZ n g = 0 ∧ dotZ d g ≠ 0) with k | k
      · exact k
      · exact absurd (fun g hg h => Classical.byContradiction fun q => k ⟨g, hg, h, q⟩) hz
    obtain ⟨g, hg, h0, hne⟩ := this
    refine ⟨g, hg, hne, 1, 0, ?_, ?_⟩
    · have e : za (zm 1 n) (zm 0 d) = n := by unfold za zm; simp
      rw [e]; exact hn
    · rw [dot_zal, dot_zml, dot_zml, h0]; simp

/-- **Completeness.** -/
theorem normal_pair {c : V} {s : List V} {n : V} {r : Int} (hr : 0 < r) (hx : (r, 0, 0) ∈ s) (hy : (0, r, 0) ∈ s) (hw : (0, 0, r) ∈ s) (hn : sepZ c s n) : ∃ v ∈ s, ∃ w ∈ s, v ≠ w ∧ sepZ c s (crossZ v w) := by
  have hn : ∃ n, sepP c s n := by
    rcases sepZ_iff.1 hn with h | h
    · exact ⟨n, h⟩
    · exact ⟨ng n, h⟩
  obtain ⟨n, hn⟩ := hn
  have rr : 0 < r * r := Int.mul_pos hr hr
  by_cases hs : sepP c s (0, 0, 1) ∨ sepP c s (ng (0, 0, 1))
  · refine ⟨_, hx, _, hy, fun k => ?_, ?_⟩
    · have := congrArg Prod.fst k
      dsimp only at this
      omega
    · have e : crossZ (r, 0, 0) (0, r, 0) = zm (r * r) (0, 0, 1) := by unfold crossZ zm; simp
      have e2 : ng (crossZ (r, 0, 0) (0, r, 0)) = zm (r * r) (ng (0, 0, 1)) := by unfold crossZ zm ng; simp
      rw [sepZ_iff, e2, e, sepP_zm rr, sepP_zm rr]
      exact hs
  have hs1 : ¬ sepP c s (0, 0, 1) := fun k => hs (.inl k)
  have hs2 : ¬ sepP c s (ng (0, 0, 1)) := fun k => hs (.inr k)
  have hex : ∃ g ∈ s, dotZ (0, 0, 1) g ≠ 0 := ⟨_, hw, by unfold dotZ; dsimp only; omega⟩
  · obtain ⟨g1, hg1, hne1, x, y, hn1, ho1⟩ := line_step hn hs1 hs2 hex
    generalize za (zm x n) (zm y (0, 0, 1)) = n1 at *
    have hz1 : g1.2.2 ≠ 0 := fun k => hne1 (by unfold dotZ; dsimp only; rw [k]; simp)
    have hdy : dotZ (crossZ g1 (r, 0, 0)) (0, r, 0) = g1.2.2 * (r * r) := by unfold dotZ crossZ; dsimp only; grind
    have hdy0 : g1.2.2 * (r * r) ≠ 0 := fun k => (Int.mul_eq_zero.1 k).elim hz1 (by omega)
    have hg1x : g1 ≠ (r, 0, 0) := fun k => hz1 (by rw [k])
    by_cases hq : sepP c s (crossZ g1 (r, 0, 0)) ∨ sepP c s (ng (crossZ g1 (r, 0, 0)))
    · exact ⟨g1, hg1, _, hx, hg1x, sepZ_iff.2 hq⟩
    obtain ⟨g2, hg2, hne2, x2, y2, hn2, ho2⟩ := line_step hn1 (fun k => hq (.inl k)) (fun k => hq (.inr k)) ⟨_, hy, by rw [hdy]; exact hdy0⟩
    have ho1' : dotZ (za (zm x2 n1) (zm y2 (crossZ g1 (r, 0, 0)))) g1 = 0 := by
      rw [dot_zal, dot_zml, dot_zml, ho1]
      have : dotZ (crossZ g1 (r, 0, 0)) g1 = 0 := by unfold dotZ crossZ; dsimp only; grind
      rw [this]; simp
    generalize za (zm x2 n1) (zm y2 (crossZ g1 (r, 0, 0))) = n2 at *
    have hm0 : dotZ (crossZ g1 g2) (crossZ g1 g2) ≠ 0 := by
      intro k
      have h3 : (crossZ g1 g2) = (0, 0, 0) := by
        generalize crossZ g1 g2 = m at *
        obtain ⟨a, b, e⟩ := m
        unfold dotZ at k
        dsimp only at k
        have q1 := sq_nonneg a
        have q2 := sq_nonneg b
        have q3 := sq_nonneg e
        have z : ∀ {t : Int}, t * t = 0 → t = 0 := fun h => (Int.mul_eq_zero.1 h).elim id id
        rw [z (show a * a = 0 by omega), z (show b * b = 0 by omega), z (show e * e = 0 by omega)]
      apply hne2
      have : dotZ (crossZ g1 (r, 0, 0)) g2 = -(dotZ (r, 0, 0) (crossZ g1 g2)) := by unfold dotZ crossZ; dsimp only; grind
      rw [this, h3, dotZ_0]; rfl
    have hne12 : g1 ≠ g2 := fun k => hm0 (by
      have : crossZ g1 g2 = (0, 0, 0) := by rw [k]; unfold crossZ; simp [Int.mul_comm]
      rw [this]; rfl)
    refine ⟨g1, hg1, g2, hg2, hne12, ?_⟩
    have hmm : 0 < dotZ (crossZ g1 g2) (crossZ g1 g2) := by
      have := dotZ_self (v := crossZ g1 g2)
      omega
    have hpar : zm (dotZ (crossZ g1 g2) (crossZ g1 g2)) n2 = zm (dotZ n2 (crossZ g1 g2)) (crossZ g1 g2) := by
      unfold dotZ at ho1' ho2
      unfold dotZ zm crossZ
      obtain ⟨a1, a2, a3⟩ := n2
      obtain ⟨u1, u2, u3⟩ := g1
      obtain ⟨w1, w2, w3⟩ := g2
      dsimp only at ho1' ho2 ⊢
      refine Prod.ext ?_ (Prod.ext ?_ ?_) <;> dsimp only <;> grind
    have h4 := (sepP_zm hmm).2 hn2
    rw [hpar] at h4
    generalize dotZ n2 (crossZ g1 g2) = k at *
    generalize crossZ g1 g2 = m at *
    rcases Int.lt_trichotomy k 0 with hk | hk | hk
    · refine sepZ_iff.2 (.inr ?_)
      have e : zm k m = zm (-k) (ng m) := by unfold zm ng; simp [Int.neg_mul, Int.mul_neg]
      rw [e] at h4
      exact (sepP_zm (by omega)).1 h4
    · exfalso
      rw [hk] at h4
      unfold sepP at h4
      rw [reach_zm (by decide), dot_zml] at h4
      omega
    · exact sepZ_iff.2 (.inl ((sepP_zm hk).1 h4))

end
end Go.MP
