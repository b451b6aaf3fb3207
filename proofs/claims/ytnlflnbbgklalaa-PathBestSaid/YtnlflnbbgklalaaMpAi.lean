/- The law PathBest: what its own look at a path shows are the ways on of the search. -/
import Derived.Test.YtnlflnbbgklalaaMpAh
namespace Go.MP
open Go Go.Sx Go.Proofs
set_option linter.unusedVariables false
set_option linter.unusedSimpArgs false
noncomputable section

/-! ### Directions -/
/-- No two directions lie on one ray. -/
def Rays (l : List V) : Prop := ∀ (i j : Int) (n m : Int), 0 ≤ i → i < l.length → 0 ≤ j → j < l.length → 1 ≤ n → n ≤ 8 → 1 ≤ m → m ≤ 8 → vmul (l.getD i.toNat (0, 0, 0)) n = vmul (l.getD j.toNat (0, 0, 0)) m → i = j ∧ n = m
def hitP (l : List V) (a : Int) (v : V) (m i : Int) : Prop := 0 ≤ i ∧ i < l.length ∧ i ≠ a ∧ ∃ n, 1 ≤ n ∧ n ≤ m ∧ v = vmul (l.getD i.toNat (0, 0, 0)) n
theorem kN_ge {k a : Int} {v w : V} : ∀ (j : Nat) (n d : Int), 0 ≤ d → kN k a v w j n d = d
  | 0, n, d, h => rfl
  | j + 1, n, d, h => by rw [kN, if_neg (fun c => by omega)]; exact kN_ge j (n + 1) d h
theorem kN_neg {k a : Int} {v w : V} (hk : 0 ≤ k) : ∀ (j : Nat) (n d : Int), d < 0 →
    (kN k a v w j n d = k ∧ k ≠ a ∧ ∃ n', n ≤ n' ∧ n' < n + j ∧ v = vmul w n') ∨ (kN k a v w j n d = d ∧ ¬ (k ≠ a ∧ ∃ n', n ≤ n' ∧ n' < n + j ∧ v = vmul w n'))
  | 0, n, d, h => .inr ⟨rfl, fun ⟨_, n', h1, h2, _⟩ => by omega⟩
  | j + 1, n, d, h => by
    rw [kN]
    by_cases c : d < 0 ∧ k ≠ a ∧ v = vmul w n
    · rw [if_pos c, kN_ge j (n + 1) k hk]
      exact .inl ⟨rfl, c.2.1, n, Int.le_refl _, by omega, c.2.2⟩
    · rw [if_neg c]
      rcases kN_neg hk j (n + 1) d h with ⟨h1, h2, n', h3, h4, h5⟩ | ⟨h1, h2⟩
      · exact .inl ⟨h1, h2, n', by omega, by omega, h5⟩
      · refine .inr ⟨h1, fun ⟨h3, n', h4, h5, h6⟩ => ?_⟩
        by_cases e : n' = n
        · subst e; exact c ⟨h, h3, h6⟩
        · exact h2 ⟨h3, n', by omega, by omega, h6⟩
theorem kD_ge {a m : Int} {v : V} : ∀ (l : List V) (k d : Int), 0 ≤ d → kD a v m l k d = d
  | [], k, d, h => rfl
  | w :: r, k, d, h => by rw [kD, kN_ge _ _ _ h]; exact kD_ge r (k + 1) d h
theorem kD_ok {L : List V} {a m : Int} {v : V} (hm : 0 ≤ m) : ∀ (l : List V) (k : Int), 0 ≤ k → l = L.drop k.toNat →
    (kD a v m l k (-1) = -1 ∧ ∀ i, k ≤ i → ¬ hitP L a v m i) ∨ hitP L a v m (kD a v m l k (-1))
  | [], k, hk, hl => .inl ⟨rfl, fun i hi ⟨h0, h1, _⟩ => by
    have := congrArg List.length hl
    rw [List.length_drop, List.length_nil] at this
    omega⟩
  | w :: r, k, hk, hl => by
    have hlt : k < (L.length : Int) := by
      have := congrArg List.length hl
      rw [List.length_drop, List.length_cons] at this
      omega
    have hs := drop_step (0, 0, 0) hk hlt
    rw [← hl] at hs
    injection hs with hD hr
    rw [kD]
    rcases kN_neg (v := v) (w := w) (a := a) hk m.toNat 1 (-1) (by decide) with ⟨h1, h2, n', h3, h4, h5⟩ | ⟨h1, h2⟩
    · rw [h1, kD_ge _ _ _ hk]
      exact .inr ⟨hk, hlt, h2, n', h3, by omega, hD ▸ h5⟩
    · rw [h1]
      rcases kD_ok hm r (k + 1) (by omega) hr with ⟨h3, h4⟩ | h3
      · refine .inl ⟨h3, fun i hi hh => ?_⟩
        by_cases e : i = k
        · subst e
          obtain ⟨_, _, g1, n', g2, g3, g4⟩ := hh
          rw [← hD] at g4
          exact h2 ⟨g1, n', g2, by omega, g4⟩
        · exact h4 i (by omega) hh
      · exact .inr h3

/-! ### Turns -/
theorem bends_scale {u D : V} {t : Int × Int} {k : Int} (hu : (legS u).2 = true) (hD : goalDir D) (hk : 1 ≤ k) (hk8 : k ≤ 8) (t0 : 0 ≤ t.1) (t1 : t.1 ≤ t.2) (t2 : 1 ≤ t.2) (t3 : t.2 ≤ 1000) : bendsS u (vmul D k) t = bendsS u D t := by
  obtain ⟨e, ev⟩ := whole_mul8 hD.1 hD.2.2 hk hk8
  obtain ⟨l1, l2, l3⟩ := legS_true hu
  have i1 := (wholeS_true l1).1
  have i2 := (wholeS_true hD.1).1
  have i3 := (wholeS_true (show (wholeS (vmul D k)).2 = true by rw [e])).1
  have hd := hD.2
  have sw := schwarz (v := u) (w := D) (by omega) (by omega) (wholeS_true l1).2.2.1 (wholeS_true hD.1).2.2.1
  have p1 := mulB (a := (wholeS u).1) (b := (wholeS D).1) (A := 131072) (B := 4000) (by omega) (by omega)
  have p0 : 0 ≤ (wholeS u).1 * (wholeS D).1 := Int.mul_nonneg (by omega) (by omega)
  have hdot : vdot u (vmul D k) = k * dotZ u D := by
    rw [vdot_eq i1 i3, ev]
    unfold dotZ; dsimp only; grind
  have hlen : (wholeS u).1 * (wholeS (vmul D k)).1 = k * ((wholeS u).1 * (wholeS D).1) := by rw [e]; grind
  unfold bendsS
  rw [hdot, vdot_eq i1 i2, hlen]
  generalize hA : (wholeS u).1 * (wholeS D).1 = A at *
  generalize hd : dotZ u D = d at *
  have q1 := mulB (a := k) (b := A) (A := 8) (B := 524288000) (by omega) (by omega)
  have q2 := mulB (a := k) (b := A - d) (A := 8) (B := 1048576000) (by omega) (by omega)
  have q3 := mulB (a := t.2) (b := A - d) (A := 1000) (B := 1048576000) (by omega) (by omega)
  have q4 := mulB (a := t.2) (b := k * (A - d)) (A := 1000) (B := 8388608000) (by omega) (by omega)
  have q5 := mulB (a := t.1) (b := (wholeS u).1) (A := 1000) (B := 131072) (by omega) (by omega)
  have q6 := mulB (a := t.1 * (wholeS u).1) (b := (wholeS D).1) (A := 131072000) (B := 4000) (by omega) (by omega)
  have q7 := mulB (a := t.1 * (wholeS u).1) (b := (wholeS (vmul D k)).1) (A := 131072000) (B := 32000) (by omega) (by rw [e]; have := mulB (a := k) (b := (wholeS D).1) (A := 8) (B := 4000) (by omega) (by omega); exact ⟨by omega, by omega⟩)
  have f1 : k * A - k * d = k * (A - d) := by grind
  have f2 : t.1 * (wholeS u).1 * (wholeS (vmul D k)).1 = k * (t.1 * (wholeS u).1 * (wholeS D).1) := by rw [e]; grind
  rw [W_id (n := k * A) (by omega) (by omega), f1, W_id (n := k * (A - d)) (by omega) (by omega), W_id (n := t.2 * (k * (A - d))) (by omega) (by omega), W_id (n := t.1 * (wholeS u).1) (by omega) (by omega), W_id (n := t.1 * (wholeS u).1 * (wholeS (vmul D k)).1) (by omega) (by omega),
    W_id (n := A) (by omega) (by omega), W_id (n := A - d) (by omega) (by omega), W_id (n := t.2 * (A - d)) (by omega) (by omega), W_id (n := t.1 * (wholeS u).1 * (wholeS D).1) (by omega) (by omega), f2]
  have f3 : t.2 * (k * (A - d)) = k * (t.2 * (A - d)) := by grind
  rw [f3]
  congr 1
  · refine decide_eq_decide.2 ⟨fun h => ?_, fun h => Int.mul_pos (by omega) h⟩
    rcases Int.lt_or_le 0 d with h1 | h1
    · exact h1
    · have := Int.mul_le_mul_of_nonneg_left h1 (show 0 ≤ k by omega)
      omega
  · exact decide_eq_decide.2 ⟨fun h => Int.le_of_mul_le_mul_left h (by omega), fun h => Int.mul_le_mul_of_nonneg_left h (by omega)⟩

theorem bends_mono {u D : V} {n n' d : Int} (hu : (legS u).2 = true) (hD : goalDir D) (t0 : 0 ≤ n) (t1 : n ≤ n') (t2 : n' ≤ d) (t3 : 1 ≤ d) (t4 : d ≤ 1000) (h : bendsS u D (n, d) = true) : bendsS u D (n', d) = true := by
  obtain ⟨l1, l2, l3⟩ := legS_true hu
  have hd := hD.2
  unfold bendsS at *
  rw [Bool.and_eq_true, decide_eq_true_eq, decide_eq_true_eq] at *
  dsimp only at *
  have q5 := mulB (a := n) (b := (wholeS u).1) (A := 1000) (B := 131072) (by omega) (by omega)
  have q6 := mulB (a := n * (wholeS u).1) (b := (wholeS D).1) (A := 131072000) (B := 4000) (by omega) (by omega)
  have q7 := mulB (a := n') (b := (wholeS u).1) (A := 1000) (B := 131072) (by omega) (by omega)
  have q8 := mulB (a := n' * (wholeS u).1) (b := (wholeS D).1) (A := 131072000) (B := 4000) (by omega) (by omega)
  rw [W_id (n := n * (wholeS u).1) (by omega) (by omega), W_id (n := n * (wholeS u).1 * (wholeS D).1) (by omega) (by omega)] at h
  rw [W_id (n := n' * (wholeS u).1) (by omega) (by omega), W_id (n := n' * (wholeS u).1 * (wholeS D).1) (by omega) (by omega)]
  have m1 := Int.mul_le_mul_of_nonneg_right t1 (show 0 ≤ (wholeS u).1 by omega)
  have m2 := Int.mul_le_mul_of_nonneg_right m1 (show 0 ≤ (wholeS D).1 by omega)
  exact ⟨h.1, by omega⟩

/-- A leg that is allowed. -/
theorem notBad {g : Goal} (hg : OkG g) {u v : V} {d : Int} (hu : (legS u).2 = true) (hv : (legS v).2 = true) : ¬ badLeg g u v d ↔ 0 ≤ d ∧ bendsS u v g.2.2.2.1 = true := by
  rw [bends_eq hu hv hg.t0 hg.t1 hg.t2 hg.t3, Bool.and_eq_true, decide_eq_true_eq, Bool.not_eq_true']
  have hT : (TurnS u v).2 = 0 := by unfold TurnS; rw [if_pos ⟨hu, hv⟩]
  have hT1 : (TurnS u v).1 = lowS ((wholeS u).1 * (wholeS v).1 - dotZ u v) ((wholeS u).1 * (wholeS v).1) := by
    unfold TurnS; rw [if_pos ⟨hu, hv⟩]; rfl
  obtain ⟨e, b1, b2, b3, b4⟩ := turn_pre hu hv
  have hf := lowS_facts b3 b1
  rw [← hT1] at hf
  have t0 := hg.t0
  have t1 := hg.t1
  have t2 := hg.t2
  have t3 := hg.t3
  have p1 := mulB (a := (TurnS u v).1.1) (b := g.2.2.2.1.2) (A := 34359738368) (B := 1000) (by omega) (by omega)
  have p2 := mulB (a := (TurnS u v).1.2) (b := g.2.2.2.1.1) (A := 34359738368) (B := 1000) (by omega) (by omega)
  unfold badLeg rbendsS fgt
  rw [hT, W_id (n := (TurnS u v).1.1 * g.2.2.2.1.2) (by omega) (by omega), W_id (n := (TurnS u v).1.2 * g.2.2.2.1.1) (by omega) (by omega), decide_eq_false_iff_not, Int.mul_comm g.2.2.2.1.1]
  constructor
  · intro h
    exact ⟨by have := fun k => h (.inl k); omega, by have := fun k => h (.inr (.inr (.inr k))); omega, fun k => h (.inr (.inr (.inl k)))⟩
  · rintro ⟨h1, h2, h3⟩ (k | k | k | k)
    · omega
    · exact k rfl
    · exact h3 k
    · omega

theorem dirG {g : Goal} (hg : OkG g) {i : Int} (h0 : 0 ≤ i) (h1 : i < g.1.length) : goalDir (g.1.getD i.toNat (0, 0, 0)) :=
  hg.dirs _ (getD_mem (by omega))

theorem keptR_good {g : Goal} (hg : OkG g) : ∀ (legs : List V) (a u : V) (dir : Int) (prev : Option V), (legS u).2 = true → checkL a prev legs = 0 → keptR g u dir legs = true → ∃ ws, legs = legsG g ws ∧ goodW g a u dir ws
  | [], a, u, dir, prev, hu, hc, hk => ⟨[], rfl, trivial⟩
  | v :: r, a, u, dir, prev, hu, hc, hk => by
    obtain ⟨c1, c2, c3, c4⟩ := checkL_zero hc
    have hv := legOk_leg c1
    rw [keptR] at hk
    by_cases hb : badLeg g u v (kD dir v g.2.1 g.1 0 (-1))
    · rw [if_pos hb] at hk; cases hk
    rw [if_neg hb] at hk
    obtain ⟨h1, h2⟩ := (notBad hg hu hv).1 hb
    have m1 := hg.m1
    rcases kD_ok (L := g.1) (a := dir) (v := v) (m := g.2.1) (by omega) g.1 0 (by decide) rfl with ⟨e, _⟩ | hh
    · rw [e] at h1; exact absurd h1 (by decide)
    generalize kD dir v g.2.1 g.1 0 (-1) = d at *
    obtain ⟨d0, d1, d2, n, n1, n2, n3⟩ := hh
    obtain ⟨ws, e, hw⟩ := keptR_good hg r (vadd a v) v d (some v) hv c4 hk
    have hl : legG g (d, n) = v := n3.symm
    refine ⟨(d, n) :: ws, by rw [e]; show v :: _ = legG g (d, n) :: _; rw [hl]; rfl, d0, d1, d2, ?_, n1, n2, by rw [hl]; exact c3, by rw [hl]; exact hw⟩
    have m8 := hg.m8
    rw [n3, bends_scale hu (dirG hg d0 d1) n1 (by omega) hg.t0 hg.t1 hg.t2 hg.t3] at h2
    exact h2

theorem good_keptR {g : Goal} (hg : OkG g) (hr : Rays g.1) : ∀ (ws : List (Int × Int)) (a u : V) (dir : Int) (prev : Option V), (legS u).2 = true → (prev = none ∨ prev = some u) → goodW g a u dir ws → keptR g u dir (legsG g ws) = true ∧ checkL a prev (legsG g ws) = 0
  | [], a, u, dir, prev, hu, hp, hw => ⟨rfl, rfl⟩
  | (i, k) :: r, a, u, dir, prev, hu, hp, hw => by
    obtain ⟨w1, w2, w3, w4, w5, w6, w7, w8⟩ := hw
    dsimp only at w1 w2 w3 w4 w5 w6 w8
    have m1 := hg.m1
    have m8 := hg.m8
    have hD := dirG hg w1 w2
    obtain ⟨hv, hlen⟩ := dir_times hD w5 (by omega)
    have hv' := legOk_leg hv
    have hl : legG g (i, k) = vmul (g.1.getD i.toNat (0, 0, 0)) k := rfl
    rw [← hl] at hv hv' hlen
    obtain ⟨ih1, ih2⟩ := good_keptR hg hr r _ (legG g (i, k)) i (some (legG g (i, k))) hv' (.inr rfl) w8
    have hd : kD dir (legG g (i, k)) g.2.1 g.1 0 (-1) = i := by
      rcases kD_ok (L := g.1) (a := dir) (v := legG g (i, k)) (m := g.2.1) (by omega) g.1 0 (by decide) rfl with ⟨_, h⟩ | hh
      · exact absurd ⟨w1, w2, w3, k, w5, w6, hl⟩ (h i w1)
      · obtain ⟨d0, d1, d2, n, n1, n2, n3⟩ := hh
        exact ((hr _ _ k n w1 w2 d0 d1 w5 (by omega) n1 (by omega) n3).1).symm
    have hb : bendsS u (legG g (i, k)) g.2.2.2.1 = true := by
      rw [hl, bends_scale hu hD w5 (by omega) hg.t0 hg.t1 hg.t2 hg.t3]; exact w4
    show keptR g u dir (legG g (i, k) :: legsG g r) = true ∧ checkL a prev (legG g (i, k) :: legsG g r) = 0
    constructor
    · rw [keptR, hd, if_neg ((notBad hg hu hv').2 ⟨w1, hb⟩)]
      exact ih1
    · have hc : clashS prev (legG g (i, k)) = false := by
        rcases hp with e | e
        · rw [e]; rfl
        · rw [e]
          unfold bendsS at hb
          rw [Bool.and_eq_true, decide_eq_true_eq] at hb
          exact decide_eq_false (by omega)
      obtain ⟨v1, v2, v3⟩ := hv
      rw [checkL_cons, if_neg (by simp [v1]), if_neg (by omega), if_neg (by rw [hc]; decide), if_neg (by simp [w7])]
      exact ih2

theorem sum_len {g : Goal} (hg : OkG g) : ∀ (ws : List (Int × Int)) (a u : V) (dir s : Int), goodW g a u dir ws → 0 ≤ s → s + 40000 * ws.length ≤ 1000000 → sumL s (legsG g ws) = lenW g s ws
  | [], a, u, dir, s, hw, h0, h1 => rfl
  | (i, k) :: r, a, u, dir, s, hw, h0, h1 => by
    obtain ⟨w1, w2, w3, w4, w5, w6, w7, w8⟩ := hw
    dsimp only at w1 w2 w3 w4 w5 w6 w8
    rw [List.length_cons] at h1
    have m8 := hg.m8
    have hD := dirG hg w1 w2
    obtain ⟨hv, hlen⟩ := dir_times hD w5 (by omega)
    have hd := hD.2
    have mb := mulB (a := (wholeS (g.1.getD i.toNat (0, 0, 0))).1) (b := k) (A := 4000) (B := 8) (by omega) (by omega)
    have m0 : 0 ≤ (wholeS (g.1.getD i.toNat (0, 0, 0))).1 * k := Int.mul_nonneg (by omega) (by omega)
    have ih := sum_len hg r _ _ _ (s + (wholeS (g.1.getD i.toNat (0, 0, 0))).1 * k) w8 (by omega) (by omega)
    show sumL s (legG g (i, k) :: legsG g r) = lenW g (s + (wholeS (g.1.getD i.toNat (0, 0, 0))).1 * k) r
    rw [← ih]
    unfold sumL
    rw [List.foldl_cons]
    have : (wholeS (legG g (i, k))).1 = (wholeS (g.1.getD i.toNat (0, 0, 0))).1 * k := by
      show (wholeS (vmul _ k)).1 = _
      rw [hlen, W_id (by omega) (by omega)]
    rw [this, W_id (n := s + (wholeS (g.1.getD i.toNat (0, 0, 0))).1 * k) (by omega) (by omega)]
theorem end_len (g : Goal) : ∀ (ws : List (Int × Int)) (a : V), (jl a (legsG g ws)).getD ws.length (0, 0, 0) = endW g a ws
  | [], a => by simp [legsG, jl, endW]
  | p :: r, a => by
    show (jl a (legG g p :: legsG g r)).getD (r.length + 1) (0, 0, 0) = endW g (vadd a (legG g p)) r
    rw [← end_len g r, jl]
    rfl

/-- **A path is kept exactly if it is a way on of the search.** -/
theorem keptS_iff {g : Goal} (hg : OkG g) (hr : Rays g.1) (hle : g.2.2.1 ≤ 3) {x0 first : V} (hx : validS x0 = true) (hf : (legS first).2 = true) (x : Pth) :
    ((keptS x x0 first g).2 = true → ∃ ws, reach g x0 first ws ∧ x = (x0, legsG g ws)) ∧ (∀ ws, reach g x0 first ws → keptS (x0, legsG g ws) x0 first g = (lenW g 0 ws, true)) := by
  constructor
  · intro h
    unfold keptS at h
    split at h
    · cases h
    rename_i hc
    split at h
    · cases h
    rename_i hk
    have c1 : checkS x = 0 := by
      rcases Int.lt_trichotomy (checkS x) 0 with k | k | k
      · exact absurd (Or.inl (by omega)) hc
      · exact k
      · exact absurd (Or.inl (by omega)) hc
    have c2 : x.1 = x0 := by
      by_cases e : x.1 = x0
      · exact e
      · exact absurd (Or.inr (Or.inl e)) hc
    have c3 : x.2.length ≠ 0 := fun e => hc (.inr (.inr (.inl e)))
    have c4 : (x.2.length : Int) ≤ g.2.2.1 := by
      rcases Int.lt_or_le g.2.2.1 x.2.length with k | k
      · exact absurd (Or.inr (Or.inr (Or.inr k))) hc
      · exact k
    have c5 : checkL x.1 none x.2 = 0 := by
      unfold checkS at c1
      split at c1
      · cases c1
      · split at c1
        · cases c1
        · exact c1
    obtain ⟨ws, e, hw⟩ := keptR_good hg x.2 x.1 first (-1) none hf c5 (by simpa using hk)
    have hlen : x.2.length = ws.length := by rw [e]; simp [legsG]
    refine ⟨ws, ⟨by omega, c2 ▸ hw, fun k => c3 (by rw [hlen, k]; rfl), ?_⟩, ?_⟩
    · have h' : withinS ((jl x.1 x.2).getD x.2.length (0, 0, 0)) g.2.2.2.2 = true := h
      rw [hlen, e, end_len, c2] at h'
      exact h'
    · rw [← c2, ← e]
  · rintro ws ⟨w1, w2, w3, w4⟩
    obtain ⟨k1, k2⟩ := good_keptR hg hr ws x0 first (-1) none hf (.inl rfl) w2
    have hlen : (legsG g ws).length = ws.length := by simp [legsG]
    have hck : checkS (x0, legsG g ws) = 0 := by
      unfold checkS
      rw [if_neg (by show ¬ (legsG g ws).length > 20; omega), if_neg (by simp [hx])]
      exact k2
    have hne : ws.length ≠ 0 := fun e => w3 (List.eq_nil_of_length_eq_zero e)
    unfold keptS
    rw [if_neg (by
      rintro (h | h | h | h)
      · exact h hck
      · exact h rfl
      · exact hne (hlen ▸ h)
      · have h' : ((legsG g ws).length : Int) > g.2.2.1 := h
        omega), if_neg (by rw [k1]; decide)]
    have e1 : lenS (x0, legsG g ws) = lenW g 0 ws := by
      unfold lenS
      rw [if_pos hck]
      exact sum_len hg ws x0 first (-1) 0 w2 (by decide) (by omega)
    rw [e1]
    show (lenW g 0 ws, withinS ((jl x0 (legsG g ws)).getD (legsG g ws).length (0, 0, 0)) g.2.2.2.2) = _
    rw [hlen, end_len, w4]

/-- What the law asks of its goals. -/
structure BestG (g : Goal) : Prop where
  ok : OkG g
  rays : Rays g.1
  goal : goalS g = 0
  legs : 1 ≤ g.2.2.1 ∧ g.2.2.1 ≤ 3
theorem plan_best {g : Goal} (hg : BestG g) {x0 first : V} (hx : validS x0 = true) (hf : (legS first).2 = true) :
    ((planS x0 first g).2 = 7 ∧ ∀ x, (keptS x x0 first g).2 = false) ∨
    ((planS x0 first g).2 = 0 ∧ (keptS (planS x0 first g).1 x0 first g).2 = true ∧ ∀ x, (keptS x x0 first g).2 = true → (keptS (planS x0 first g).1 x0 first g).1 ≤ (keptS x x0 first g).1) := by
  obtain ⟨s1, s2⟩ := search_spec hg.ok (by have := hg.legs; omega) x0 first
  have hk := keptS_iff hg.ok hg.rays hg.legs.2 hx hf
  unfold planS
  rw [if_neg (by simp [hg.goal]), if_neg (by simp [hx]), if_neg (by simp [hf])]
  generalize walkR g g.2.2.1.toNat [] x0 first (-1) 0 ([], -1) = r at *
  by_cases h : r.2 < 0
  · rw [if_pos h]
    refine .inl ⟨rfl, fun x => ?_⟩
    cases e : (keptS x x0 first g).2
    · rfl
    · obtain ⟨ws, hw, _⟩ := (hk x).1 e
      exact absurd hw (s1 h ws)
  · rw [if_neg h]
    obtain ⟨⟨ws, hw, er⟩, hmin⟩ := s2 (by omega)
    have e := (hk (x0, legsG g ws)).2 ws hw
    subst er
    refine .inr ⟨rfl, by rw [e], fun x hx => ?_⟩
    obtain ⟨vs, hv, ex⟩ := (hk x).1 hx
    rw [e, ex, (hk x).2 vs hv]
    exact hmin vs hv

/-- A goal that allows more. -/
def moreG (g : Goal) (m n : Int) : Goal := (g.1, m, g.2.2.1, (n, g.2.2.2.1.2), g.2.2.2.2)
theorem good_more {g : Goal} (hg : OkG g) {m n : Int} (hm : g.2.1 ≤ m) (hn : g.2.2.2.1.1 ≤ n) (hn2 : n ≤ g.2.2.2.1.2) : ∀ (ws : List (Int × Int)) (a u : V) (dir : Int), (legS u).2 = true → goodW g a u dir ws → goodW (moreG g m n) a u dir ws
  | [], a, u, dir, hu, hw => trivial
  | (i, k) :: r, a, u, dir, hu, hw => by
    obtain ⟨w1, w2, w3, w4, w5, w6, w7, w8⟩ := hw
    dsimp only at w1 w2 w3 w4 w5 w6 w8
    have m8 := hg.m8
    have hD := dirG hg w1 w2
    obtain ⟨hv, _⟩ := dir_times hD w5 (by omega)
    refine ⟨w1, w2, w3, ?_, w5, by show k ≤ m; omega, w7, good_more hg hm hn hn2 r _ _ i (legOk_leg hv) w8⟩
    exact bends_mono hu hD hg.t0 hn hn2 hg.t2 hg.t3 w4
theorem legs_more (g : Goal) (m n : Int) (ws : List (Int × Int)) : legsG (moreG g m n) ws = legsG g ws := rfl
theorem end_more (g : Goal) (m n : Int) : ∀ (ws : List (Int × Int)) (a : V), endW (moreG g m n) a ws = endW g a ws
  | [], a => rfl
  | p :: r, a => end_more g m n r _
theorem len_more (g : Goal) (m n : Int) : ∀ (ws : List (Int × Int)) (s : Int), lenW (moreG g m n) s ws = lenW g s ws
  | [], a => rfl
  | p :: r, a => len_more g m n r _
theorem more_best {g : Goal} (hg : BestG g) {m n : Int} (hm : g.2.1 ≤ m) (hn : g.2.2.2.1.1 ≤ n) (hn2 : n ≤ g.2.2.2.1.2) (hg2 : BestG (moreG g m n)) {x0 first : V} (hx : validS x0 = true) (hf : (legS first).2 = true) (h0 : (planS x0 first g).2 = 0) :
    (planS x0 first (moreG g m n)).2 = 0 ∧ (keptS (planS x0 first (moreG g m n)).1 x0 first (moreG g m n)).2 = true ∧ (keptS (planS x0 first (moreG g m n)).1 x0 first (moreG g m n)).1 ≤ (keptS (planS x0 first g).1 x0 first g).1 := by
  have hk := keptS_iff hg.ok hg.rays hg.legs.2 hx hf
  have hk2 := keptS_iff hg2.ok hg2.rays hg2.legs.2 hx hf
  rcases plan_best hg hx hf with ⟨e, _⟩ | ⟨_, h1, _⟩
  · rw [h0] at e; cases e
  obtain ⟨ws, hw, ex⟩ := (hk _).1 h1
  have hw2 : reach (moreG g m n) x0 first ws := ⟨hw.1, good_more hg.ok hm hn hn2 ws x0 first (-1) hf hw.2.1, hw.2.2.1, by rw [end_more]; exact hw.2.2.2⟩
  have e2 := (hk2 (x0, legsG g ws)).2 ws hw2
  rw [legs_more, len_more] at e2
  rcases plan_best hg2 hx hf with ⟨_, h⟩ | ⟨k1, k2, k3⟩
  · have := h (x0, legsG g ws)
    rw [e2] at this
    cases this
  · refine ⟨k1, k2, ?_⟩
    have := k3 (x0, legsG g ws) (by rw [e2])
    rw [e2] at this
    rw [ex, (hk (x0, [])).2 ws hw]
    exact this

end
end Go.MP
