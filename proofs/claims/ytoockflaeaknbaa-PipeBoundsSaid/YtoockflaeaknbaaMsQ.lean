/- The law PipeBounds: frictions between the bounds. -/
import Derived.Test.YtoockflaeaknbaaMsM
namespace Go.MP
open Go Go.Sx Go.Proofs
set_option linter.unusedVariables false
set_option linter.unusedSimpArgs false
noncomputable section
def muC (c : Cs) (m : R2) : Cs := (c.1, c.2.1, m, c.2.2.2)
structure Within (n : Int) (x y : H4) : Prop where
  lo : x.1 ≤ y.1
  mid : y.1 ≤ y.2.1
  hi : y.2.1 ≤ x.2.1
  t0 : 0 ≤ x.2.2.1
  t1 : x.2.2.1 ≤ y.2.2.1
  t2 : y.2.2.1 ≤ y.2.2.2
  t3 : y.2.2.2 ≤ x.2.2.2
  t4 : x.2.2.2 ≤ n
theorem least_mono {a b c d : Int} (h1 : a ≤ c) (h2 : c ≤ d) (h3 : d ≤ b) : leastS a b ≤ leastS c d ∧ 0 ≤ leastS a b ∧ leastS c d ≤ maxI (absI c) (absI d) ∧ maxI (absI c) (absI d) ≤ maxI (absI a) (absI b) := by
  unfold leastS
  rw [maxI_eq, maxI_eq, minI_eq, minI_eq, absI_eq a, absI_eq b, absI_eq c, absI_eq d]
  split <;> split <;> split <;> split <;> split <;> split <;> omega
theorem within_bent {mode : Int} (hm : mode = 1 ∨ mode = 2 ∨ mode = 3) {u v b : R2} {o : Int} {n : Int} {x y : H4} (hu : OkMu u) (hv : OkMu v) (h1 : u.1 ≤ v.1) (h2 : v.2 ≤ u.2) (hb : OkB b) (ho : 0 ≤ o ∧ o ≤ 90) (hn : 0 ≤ n ∧ n ≤ 4611686018427387904) (hx : OkX x.1 x.2.1) (h : Within n x y) : Within (n + 197912092999680) (bentS mode u b o x) (bentS mode v b o y) := by
  obtain ⟨k1, k2⟩ := hu.k hb
  obtain ⟨j1, j2⟩ := hv.k hb
  have e1 : u.1 * b.1 ≤ v.1 * b.1 := Int.mul_le_mul_of_nonneg_right h1 hb.1
  have e2 : v.2 * b.2 ≤ u.2 * b.2 := Int.mul_le_mul_of_nonneg_right h2 (by have := hb.1; have := hb.2.1; omega)
  have e3 : v.1 * b.1 ≤ v.2 * b.2 := Int.mul_le_mul hv.2.1 hb.2.1 hb.1 (by have := hv.1; have := hv.2.1; omega)
  have hy : OkX y.1 y.2.1 := ⟨by have := hx.1; have := h.lo; omega, h.mid, by have := hx.2.2; have := h.hi; omega⟩
  have hmid := bent_order hm hy hv hb (o := o)
  obtain ⟨q1, q2, q3, q4, q5, q6, q7, q8⟩ := h
  rcases hm with rfl | rfl | rfl
  · rw [bent1] at hmid
    rw [bent1, bent1]
    exact ⟨addLow q1 k1.1 e1 j1.2, hmid, addUp q3 j2.1 e2 k2.2, q4, q5, q6, q7, by dsimp only; omega⟩
  · rw [bent2] at hmid
    rw [bent2, bent2]
    exact ⟨subUp q1 j2.1 e2 k2.2, hmid, subLow q3 k1.1 e1 j1.2, q4, q5, q6, q7, by dsimp only; omega⟩
  · rw [bent3, bent3]
    obtain ⟨m1, m2, m3, m4⟩ := least_mono q1 q2 q3
    have ax := abs_rng (n := x.1) hx.1 (by have := hx.2.1; have := hx.2.2; omega)
    have ay := abs_rng (n := x.2.1) (by have := hx.1; have := hx.2.1; omega) hx.2.2
    have mx : maxI (absI x.1) (absI x.2.1) ≤ 4398046511104 := by rw [maxI_eq]; omega
    have l1 : 0 ≤ lowS9 (leastS x.1 x.2.1) u.1 b.1 := (low_rng m2 k1.1 k1.2).1
    have l2 : lowS9 (leastS x.1 x.2.1) u.1 b.1 ≤ lowS9 (leastS y.1 y.2.1) v.1 b.1 := Int.le_trans (low_mono m1 k1.1) (low_k (by omega) e1)
    have l3 : lowS9 (leastS y.1 y.2.1) v.1 b.1 ≤ upS9 (maxI (absI y.1) (absI y.2.1)) v.2 b.2 := Int.le_trans (low_mono m3 j1.1) (Int.le_trans (low_up _ _ _) (up_k (by omega) e3))
    have l4 : upS9 (maxI (absI y.1) (absI y.2.1)) v.2 b.2 ≤ upS9 (maxI (absI x.1) (absI x.2.1)) u.2 b.2 := Int.le_trans (up_mono m4 j2.1) (up_k (by omega) e2)
    have l5 := (up_rng (a := maxI (absI x.1) (absI x.2.1)) (by omega) k2.1 k2.2).2
    generalize lowS9 (leastS x.1 x.2.1) u.1 b.1 = a at *
    generalize lowS9 (leastS y.1 y.2.1) v.1 b.1 = b' at *
    generalize upS9 (maxI (absI y.1) (absI y.2.1)) v.2 b.2 = c at *
    generalize upS9 (maxI (absI x.1) (absI x.2.1)) u.2 b.2 = d at *
    have p1 : 0 ≤ a * o := Int.mul_nonneg l1 ho.1
    have p2 : a * o ≤ b' * o := Int.mul_le_mul_of_nonneg_right l2 ho.1
    have p3 : b' * o ≤ c * o := Int.mul_le_mul_of_nonneg_right l3 ho.1
    have p4 : c * o ≤ d * o := Int.mul_le_mul_of_nonneg_right l4 ho.1
    have p5 := (mul_rng (a := d) (b := o) (A := 4398046511104) (B := 90) (by omega) (by omega) ho.1 ho.2).2
    unfold upS
    rw [W_id (n := x.2.2.1 + a * o / 2) (by omega) (by omega), W_id (n := y.2.2.1 + b' * o / 2) (by omega) (by omega), W_id (n := y.2.2.2 + -(-(c * o) / 2)) (by omega) (by omega), W_id (n := x.2.2.2 + -(-(d * o) / 2)) (by omega) (by omega)]
    exact ⟨q1, q2, q3, by dsimp only; omega, by dsimp only; omega, by dsimp only; omega, by dsimp only; omega, by dsimp only; omega⟩
theorem within_rub {mode : Int} (hm : mode = 1 ∨ mode = 2 ∨ mode = 3) {a b c d o : Int} {n : Int} {x y : H4} (hf : OkF a d) (h1 : a ≤ b) (h2 : b ≤ c) (h3 : c ≤ d) (ho : 0 ≤ o ∧ o ≤ 90) (hn : 0 ≤ n ∧ n ≤ 4611686018427387904) (h : Within n x y) : Within (n + 791648371998720) (rubS mode a d o x) (rubS mode b c o y) := by
  obtain ⟨q1, q2, q3, q4, q5, q6, q7, q8⟩ := h
  obtain ⟨f1, f2, f3⟩ := hf
  rcases hm with rfl | rfl | rfl
  · rw [rub1, rub1]
    exact ⟨by dsimp only; omega, by dsimp only; omega, by dsimp only; omega, q4, q5, q6, q7, by dsimp only; omega⟩
  · rw [rub2, rub2]
    exact ⟨by dsimp only; omega, by dsimp only; omega, by dsimp only; omega, q4, q5, q6, q7, by dsimp only; omega⟩
  · rw [rub3, rub3]
    have p1 : 0 ≤ a * o := Int.mul_nonneg f1 ho.1
    have p2 : a * o ≤ b * o := Int.mul_le_mul_of_nonneg_right h1 ho.1
    have p3 : b * o ≤ c * o := Int.mul_le_mul_of_nonneg_right h2 ho.1
    have p4 : c * o ≤ d * o := Int.mul_le_mul_of_nonneg_right h3 ho.1
    have p5 := (mul_rng (a := d) (b := o) (A := 17592186044416) (B := 90) (by omega) f3 ho.1 ho.2).2
    unfold upS
    rw [W_id (n := x.2.2.1 + a * o / 2) (by omega) (by omega), W_id (n := y.2.2.1 + b * o / 2) (by omega) (by omega), W_id (n := y.2.2.2 + -(-(c * o) / 2)) (by omega) (by omega), W_id (n := x.2.2.2 + -(-(d * o) / 2)) (by omega) (by omega)]
    exact ⟨q1, q2, q3, by dsimp only; omega, by dsimp only; omega, by dsimp only; omega, by dsimp only; omega, by dsimp only; omega⟩
theorem within_hung {a m : Int} (hm : 0 < m) {n : Int} {x y : H4} (h : Within n x y) : Within n (hungS a m x) (hungS a m y) := by
  obtain ⟨q1, q2, q3, q4, q5, q6, q7, q8⟩ := h
  have := floor_ceil a m hm
  rw [hung1, hung1]
  exact ⟨by dsimp only; omega, by dsimp only; omega, by dsimp only; omega, q4, q5, q6, q7, q8⟩
theorem within_tame {n : Int} {x y : H4} (h : Within n x y) (hw : ¬ wildS x = true) : ¬ wildS y = true := by
  unfold wildS at *
  simp only [Bool.or_eq_true, decide_eq_true_eq, not_or] at *
  have := h.lo
  have := h.hi
  omega
theorem within_step {l : List Tb} {p : Pth} {c : Cs} {m : R2} (hc : CaseOk l c) (hd : CaseOk l (muC c m)) (h1 : c.2.2.1.1 ≤ m.1) (h2 : m.2 ≤ c.2.2.1.2) (n : Nat) (b : Int) (q : Pc) (x y : H4) (hn : n < 160)
    (hb : b ≥ 0 → b ≠ q.2.1 → OkB (bendV (pcV p q) (p.2.getD b.toNat zV))) (hl : legOk (pcV p q)) (ht : Fair (pcT l q)) (hmm : pcT l q ∈ l) (hw : 0 < q.2.2.2 - q.2.2.1 ∧ q.2.2.2 - q.2.2.1 ≤ 1048576)
    (hI : OkX x.1 x.2.1 ∧ Within (1125899906842624 * n) x y) (w1 : ¬ wildS (step1 l p c b q x) = true) (w2 : ¬ wildS (step2 l p c q (step1 l p c b q x)) = true) (w3 : ¬ wildS (step3 l p c q (step2 l p c q (step1 l p c b q x))) = true) :
    (OkX (step3 l p c q (step2 l p c q (step1 l p c b q x))).1 (step3 l p c q (step2 l p c q (step1 l p c b q x))).2.1 ∧ Within (1125899906842624 * (n + 1 : Nat)) (step3 l p c q (step2 l p c q (step1 l p c b q x))) (step3 l p (muC c m) q (step2 l p (muC c m) q (step1 l p (muC c m) b q y)))) ∧
    ¬ wildS (step1 l p (muC c m) b q y) = true ∧ ¬ wildS (step2 l p (muC c m) q (step1 l p (muC c m) b q y)) = true ∧ ¬ wildS (step3 l p (muC c m) q (step2 l p (muC c m) q (step1 l p (muC c m) b q y))) = true := by
  obtain ⟨hX, hW⟩ := hI
  have hmode : c.1 = 1 ∨ c.1 = 2 ∨ c.1 = 3 := by have := hc.mode; omega
  have hpc := pc_ok hc hl ht hmm hw (b := b)
  have hpd := pc_ok hd hl ht hmm hw (b := b)
  have ho := ht.out
  have n0 := hl.2.1
  have d1 : Within (1125899906842624 * n + 197912092999680) (step1 l p c b q x) (step1 l p (muC c m) b q y) := by
    rw [step1_eq, step1_eq]
    split
    · rename_i e
      exact within_bent hmode hc.mu hd.mu h1 h2 (hb e.1 e.2) (by omega) (by omega) hX hW
    · obtain ⟨q1, q2, q3, q4, q5, q6, q7, q8⟩ := hW
      exact ⟨q1, q2, q3, q4, q5, q6, q7, by omega⟩
  have d2 : Within (1125899906842624 * n + 197912092999680) (step2 l p c q (step1 l p c b q x)) (step2 l p (muC c m) q (step1 l p (muC c m) b q y)) := within_hung (by omega) d1
  obtain ⟨s1, s2, s3, s4⟩ := side_rng hl
  obtain ⟨F, _, _, g1, g2⟩ := hpc.rub hc.mu
  have FD := (hpd.rub hd.mu).1
  have lo1 : rubLo l p c q ≤ rubLo l p (muC c m) q := by
    show pcW l c q * (sideS (pcV p q)).1 / (wholeS (pcV p q)).1 * c.2.2.1.1 / 1000 ≤ pcW l c q * (sideS (pcV p q)).1 / (wholeS (pcV p q)).1 * m.1 / 1000
    have := Int.mul_le_mul_of_nonneg_left h1 g1.1
    omega
  have hi1 : rubHi l p (muC c m) q ≤ rubHi l p c q := by
    show upS (upS (pcW l c q * (sideS (pcV p q)).2) (wholeS (pcV p q)).1 * m.2) 1000 ≤ upS (upS (pcW l c q * (sideS (pcV p q)).2) (wholeS (pcV p q)).1 * c.2.2.1.2) 1000
    exact up_mono' (Int.mul_le_mul_of_nonneg_left h2 g2.1) (by decide)
  have d3 : Within (1125899906842624 * n + 197912092999680 + 791648371998720) (step3 l p c q (step2 l p c q (step1 l p c b q x))) (step3 l p (muC c m) q (step2 l p (muC c m) q (step1 l p (muC c m) b q y))) :=
    within_rub hmode F lo1 FD.2.1 hi1 (by omega) (by omega) d2
  refine ⟨⟨tame (Int.le_trans d3.lo (Int.le_trans d3.mid d3.hi)) w3, ?_⟩, within_tame d1 w1, within_tame d2 w2, within_tame d3 w3⟩
  obtain ⟨q1, q2, q3, q4, q5, q6, q7, q8⟩ := d3
  exact ⟨q1, q2, q3, q4, q5, q6, q7, by omega⟩
def RIns (b a : Hg) : Prop := a.1 = b.1 ∧ b.2.1.1 ≤ a.2.1.1 ∧ a.2.1.2 ≤ b.2.1.2 ∧ b.2.2.1 ≤ a.2.2.1 ∧ a.2.2.2 ≤ b.2.2.2 ∧ a.2.1.1 ≤ a.2.1.2 ∧ a.2.2.1 ≤ a.2.2.2
theorem bounds_ok {l : List Tb} {p : Pth} {c : Cs} {m : R2} (h1 : c.2.2.1.1 ≤ m.1) (hm : m.1 ≤ m.2) (h2 : m.2 ≤ c.2.2.1.2) (he : (loadsS l p c).2.2 = 0) : (loadsS l p (muC c m)).2.2 = 0 ∧ AllB RIns (loadsS l p c).1 (loadsS l p (muC c m)).1 ∧ (loadsS l p c).1.length = (pcsS l p).length ∧ fitsS l p = 0 := by
  have hr : fitsS l p = 0 ∧ caseS l c = 0 ∧ (runS l p c (-1) (startS c) (pcsS l p)).1 = true ∧ (loadsS l p c).1 = (runS l p c (-1) (startS c) (pcsS l p)).2.1 := by
    unfold loadsS at *
    split at he
    · rename_i h; exact absurd he h
    rename_i a1
    split at he
    · rename_i h; exact absurd he h
    rename_i a2
    split at he
    · rename_i a3
      rw [if_neg a1, if_neg a2, if_pos a3]
      exact ⟨by simpa using a1, by simpa using a2, a3, rfl⟩
    · cases he
  obtain ⟨hf, hca, hrun, hl⟩ := hr
  obtain ⟨hck, hc⟩ := caseS_ok hca
  have hd : CaseOk l (muC c m) := ⟨hc.mode, hc.mud, ⟨by have := hc.mu.1; show 0 ≤ m.1; omega, hm, by have := hc.mu.2.2; show m.2 ≤ 600; omega⟩, hc.bit, hc.wet⟩
  have hm' := pcsS_few hf
  have hch := chain_all hf
  have hst : startS (muC c m) = startS c := rfl
  have hs0 : OkX (startS c).1 (startS c).2.1 ∧ Within (1125899906842624 * (0 : Nat)) (startS c) (startS c) := by
    have hb := hc.bit
    unfold startS
    split
    · exact ⟨⟨by dsimp only; omega, Int.le_refl _, by dsimp only; omega⟩, ⟨Int.le_refl _, Int.le_refl _, Int.le_refl _, Int.le_refl _, Int.le_refl _, Int.le_refl _, Int.le_refl _, Int.le_refl _⟩⟩
    · exact ⟨⟨by dsimp only; omega, Int.le_refl _, by dsimp only; omega⟩, ⟨Int.le_refl _, Int.le_refl _, Int.le_refl _, Int.le_refl _, Int.le_refl _, Int.le_refl _, Int.le_refl _, Int.le_refl _⟩⟩
  have hrd : (runS l p (muC c m) (-1) (startS c) (pcsS l p)).1 = true :=
    runs_tame (fun n x y => OkX x.1 x.2.1 ∧ Within (1125899906842624 * n) x y) (fun n b q x y hn hb hl' ht hmm hw hI w1 w2 w3 => by
      obtain ⟨a, b1, b2, b3⟩ := within_step hc hd h1 h2 n b q x y hn hb hl' ht hmm hw hI w1 w2 w3
      exact ⟨a, b1, b2, b3⟩) _ 0 _ _ _ (by omega) hch hs0 hrun
  have hrel : AllB RIns (runS l p c (-1) (startS c) (pcsS l p)).2.1 (runS l p (muC c m) (-1) (startS c) (pcsS l p)).2.1 :=
    runs_rel (fun n x y => OkX x.1 x.2.1 ∧ Within (1125899906842624 * n) x y) RIns (fun n b q x y hn hb hl' ht hmm hw hg hI w1 w2 w3 => by
      obtain ⟨a, _, _, _⟩ := within_step hc hd h1 h2 n b q x y hn hb hl' ht hmm hw hI w1 w2 w3
      exact ⟨a, rfl, a.2.lo, a.2.hi, a.2.t1, a.2.t3, a.2.mid, a.2.t2⟩) _ 0 _ _ _ (by omega) hch hs0 hrun hrd
  have hcd : caseS l (muC c m) = 0 := caseS_of hck hd
  have ed : loadsS l p (muC c m) = ((runS l p (muC c m) (-1) (startS c) (pcsS l p)).2.1, (runS l p (muC c m) (-1) (startS c) (pcsS l p)).2.2, 0) := by
    unfold loadsS
    rw [if_neg (by simp [hf]), if_neg (by simp [hcd]), hst, if_pos hrd]
  rw [ed, hl]
  exact ⟨rfl, hrel, (runS_len _ _ _ _ _ _ hrun).1, hf⟩
end
end Go.MP
