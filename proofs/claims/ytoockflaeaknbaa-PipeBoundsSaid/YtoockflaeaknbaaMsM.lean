/- The laws PipeModes, PipeMore, PipeBounds: loads compared. -/
import Derived.Test.YtoockflaeaknbaaMsL
namespace Go.MP
open Go Go.Sx Go.Proofs
set_option linter.unusedVariables false
set_option linter.unusedSimpArgs false
noncomputable section
theorem runS_cons (l : List Tb) (p : Pth) (c : Cs) (below : Int) (x : H4) (q : Pc) (r : List Pc) : runS l p c below x (q :: r) =
    if wildS (step1 l p c below q x) = true then (false, [], [])
    else if wildS (step2 l p c q (step1 l p c below q x)) = true then (false, [], [])
    else if wildS (step3 l p c q (step2 l p c q (step1 l p c below q x))) = true then (false, [], [])
    else ((runS l p c q.2.1 (step3 l p c q (step2 l p c q (step1 l p c below q x))) r).1,
      (q.2.2.1, ((step3 l p c q (step2 l p c q (step1 l p c below q x))).1, (step3 l p c q (step2 l p c q (step1 l p c below q x))).2.1), (step3 l p c q (step2 l p c q (step1 l p c below q x))).2.2) :: (runS l p c q.2.1 (step3 l p c q (step2 l p c q (step1 l p c below q x))) r).2.1,
      ((step1 l p c below q x).1, (step1 l p c below q x).2.1) :: (runS l p c q.2.1 (step3 l p c q (step2 l p c q (step1 l p c below q x))) r).2.2) := rfl
theorem runS_len (l : List Tb) (p : Pth) (c : Cs) : ∀ (m : List Pc) (below : Int) (x : H4), (runS l p c below x m).1 = true → (runS l p c below x m).2.1.length = m.length ∧ (runS l p c below x m).2.2.length = m.length
  | [], _, _, _ => ⟨rfl, rfl⟩
  | q :: m, below, x, h => by
    rw [runS_cons] at h ⊢
    split at h
    · cases h
    rename_i w1
    rw [if_neg w1]
    split at h
    · cases h
    rename_i w2
    rw [if_neg w2]
    split at h
    · cases h
    rename_i w3
    rw [if_neg w3]
    obtain ⟨a, b⟩ := runS_len l p c m _ _ h
    exact ⟨by rw [List.length_cons, List.length_cons, a], by rw [List.length_cons, List.length_cons, b]⟩
inductive Chain (l : List Tb) (p : Pth) : Int → List Pc → Prop where
  | nil (b : Int) : Chain l p b []
  | cons (b : Int) (q : Pc) (r : List Pc) (hb : b ≥ 0 → b ≠ q.2.1 → OkB (bendV (pcV p q) (p.2.getD b.toNat zV))) (hl : legOk (pcV p q)) (ht : Fair (pcT l q)) (hm : pcT l q ∈ l) (hw : 0 < q.2.2.2 - q.2.2.1 ∧ q.2.2.2 - q.2.2.1 ≤ 1048576) (hg : pcV p q ∈ p.2) (hr : Chain l p q.2.1 r) : Chain l p b (q :: r)
theorem chain_tube {l : List Tb} {p : Pth} (hf : fitsS l p = 0) {ks : List K2} (hks : ks = knots p.1 p.2) {i : Int} (i0 : 0 ≤ i) (i1 : i < l.length) {top : Int} (h0 : 0 ≤ top) (rest : List Pc) : ∀ (n : Nat) (to b : Int), (to - top).toNat ≤ n → top ≤ to → to ≤ lenS p → to ≤ 1048576 → b < p.2.length → (b ≥ 0 → 0 < to → b = legOf ks to ∨ b = legOf ks to + 1) →
    (∀ b' : Int, b' < p.2.length → (b' ≥ 0 → 0 < top → b' = legOf ks top ∨ b' = legOf ks top + 1) → Chain l p b' rest) → Chain l p b (tubeS ks i top to ++ rest) := by
  have hd : Down ks (lenS p) := by rw [hks]; exact fits_down hf
  have hkl : (ks.length : Int) = p.2.length + 1 := by rw [hks]; have := knots_length p.1 p.2; omega
  obtain ⟨f1, f2, f3⟩ := fitsS_ok hf
  obtain ⟨_, _, g3, _⟩ := checkT_ok f1
  intro n
  induction n with
  | zero =>
    intro to b hn ht hL h20 hb hadj hrest
    have e : to = top := by omega
    subst e
    rw [tubeS_nil _ _ _ (Int.le_refl _), List.nil_append]
    exact hrest b hb hadj
  | succ n ih =>
    intro to b hn ht hL h20 hb hadj hrest
    by_cases hto : to ≤ top
    · have e : to = top := by omega
      subst e
      rw [tubeS_nil _ _ _ (Int.le_refl _), List.nil_append]
      exact hrest b hb hadj
    · obtain ⟨l1, l2, l3, l4⟩ := legOf_ok hd (show 0 < to by omega) hL
      have hm : top ≤ maxI top (knotA ks (legOf ks to)) ∧ maxI top (knotA ks (legOf ks to)) < to ∧ knotA ks (legOf ks to) ≤ maxI top (knotA ks (legOf ks to)) := by rw [maxI_eq]; omega
      rw [tubeS_step hd i h0 (by omega) hL, List.cons_append]
      generalize maxI top (knotA ks (legOf ks to)) = fr at *
      have hmem := mem_getD (d := zT) i0 i1
      have hleg : p.2.getD (legOf ks to).toNat zV ∈ p.2 := mem_getD l1 (by omega)
      refine Chain.cons b _ _ ?_ (checkS_legs f2 _ hleg) (g3 _ hmem) hmem (by show 0 < to - fr ∧ to - fr ≤ 1048576; omega) hleg (ih fr (legOf ks to) (by omega) hm.1 (by omega) (by omega) (by omega) (fun _ f0 => ?_) hrest)
      · intro b0 b1
        exact bend_adj f2 l1 (hadj b0 (by omega)) hb b1
      · rcases legOf_adj hd (show 0 < to by omega) hL f0 (by omega) hm.2.2 with e | e
        · exact .inl e
        · exact .inr e
theorem chain_pcs {l0 : List Tb} {p : Pth} (hf : fitsS l0 p = 0) {ks : List K2} (hks : ks = knots p.1 p.2) : ∀ (l : List Tb) (i b : Int), 0 ≤ i → l = l0.drop i.toNat → (i ≤ l0.length) → sumT l ≤ lenS p → sumT l ≤ 1048576 → b < p.2.length → (b ≥ 0 → 0 < sumT l → b = legOf ks (sumT l) ∨ b = legOf ks (sumT l) + 1) → Chain l0 p b (pcsL ks i (sumT l) l) := by
  obtain ⟨f1, f2, f3⟩ := fitsS_ok hf
  obtain ⟨_, _, g3, _⟩ := checkT_ok f1
  intro l
  induction l with
  | nil => intro i b _ _ _ _ _ _ _; exact Chain.nil b
  | cons t r ih =>
    intro i b i0 hl hi hL h20 hb hadj
    have hlt : i < l0.length := by
      rcases Int.lt_or_le i l0.length with h | h
      · exact h
      · rw [List.drop_eq_nil_of_le (by omega)] at hl; cases hl
    have hcons := drop_step zT i0 hlt
    rw [← hl] at hcons
    injection hcons with ht hr
    have hfair : Fair t := by rw [ht]; exact g3 _ (mem_getD i0 hlt)
    have hp := hfair.prod
    have hrs := (sumT_rng r (by rw [hr]; exact g3.drop _)).1
    have e : sumT (t :: r) - t.1 * t.2.1 = sumT r := by rw [sumT]; omega
    rw [sumT] at hL h20
    rw [pcsL, e]
    refine chain_tube hf hks i0 hlt hrs _ _ _ b (Nat.le_refl _) (by rw [sumT]; omega) (by rw [sumT]; exact hL) (by rw [sumT]; exact h20) hb hadj ?_
    intro b' hb' hadj'
    exact ih (i + 1) b' (by omega) hr (by omega) (by omega) (by omega) hb' hadj'
theorem chain_all {l : List Tb} {p : Pth} (hf : fitsS l p = 0) : Chain l p (-1) (pcsS l p) := by
  obtain ⟨f1, f2, f3⟩ := fitsS_ok hf
  obtain ⟨_, _, _, g4⟩ := checkT_ok f1
  unfold pcsS
  rw [if_pos hf]
  exact chain_pcs hf rfl l 0 (-1) (by decide) (by simp) (by omega) f3 g4 (by omega) (fun h => absurd h (by decide))
theorem tubeS_legs {ks : List K2} {L : Int} (hd : Down ks L) (i : Int) {top : Int} (h0 : 0 ≤ top) : ∀ (n : Nat) (to : Int), (to - top).toNat ≤ n → top < to → to ≤ L → ((tubeS ks i top to).length : Int) ≤ legOf ks to + 1 := by
  intro n
  induction n with
  | zero => intro to hn ht hL; omega
  | succ n ih =>
    intro to hn ht hL
    obtain ⟨l1, l2, l3, l4⟩ := legOf_ok hd (show 0 < to by omega) hL
    rw [tubeS_step hd i h0 ht hL, List.length_cons]
    by_cases hk : knotA ks (legOf ks to) ≤ top
    · have e : maxI top (knotA ks (legOf ks to)) = top := by rw [maxI_eq]; omega
      rw [e, tubeS_nil _ _ _ (Int.le_refl _), List.length_nil]; omega
    · have e : maxI top (knotA ks (legOf ks to)) = knotA ks (legOf ks to) := by rw [maxI_eq]; omega
      rw [e]
      have h2 := ih (knotA ks (legOf ks to)) (by omega) (by omega) (by omega)
      obtain ⟨m1, m2, m3, m4⟩ := legOf_ok hd (show 0 < knotA ks (legOf ks to) by omega) (show knotA ks (legOf ks to) ≤ L by omega)
      have : legOf ks (knotA ks (legOf ks to)) < legOf ks to := by
        rcases Int.lt_or_le (legOf ks (knotA ks (legOf ks to))) (legOf ks to) with h | h
        · exact h
        · have := hd.asc (legOf ks to) (legOf ks (knotA ks (legOf ks to))) l1 h (by omega)
          omega
      omega
theorem pcsL_few {ks : List K2} {L : Int} (hd : Down ks L) (hk : (ks.length : Int) ≤ 21) (l : List Tb) : AllF l → ∀ i to : Int, to = sumT l → to ≤ L → ((pcsL ks i to l).length : Int) ≤ 20 * l.length := by
  induction l with
  | nil => intro _ i to h _; simp [pcsL]
  | cons t r ih =>
    intro h i to h1 h2
    have hp := (h t (by simp)).prod
    have hr := (sumT_rng r fun u hu => h u (by simp [hu])).1
    rw [sumT] at h1
    have h3 := ih (fun u hu => h u (by simp [hu])) (i + 1) (to - t.1 * t.2.1) (by omega) (by omega)
    have h4 := tubeS_legs hd i (show 0 ≤ to - t.1 * t.2.1 by omega) _ to (Nat.le_refl _) (by omega) h2
    have h5 := (legOf_ok hd (show 0 < to by omega) h2).2.1
    rw [pcsL, List.length_append, List.length_cons]
    omega
theorem pcsS_few {l : List Tb} {p : Pth} (hf : fitsS l p = 0) : (pcsS l p).length ≤ 160 := by
  obtain ⟨h1, h2, h3⟩ := fitsS_ok hf
  obtain ⟨_, h6, h4, h5⟩ := checkT_ok h1
  have hk := knots_length p.1 p.2
  have hp := checkS_len h2
  unfold pcsS
  rw [if_pos hf]
  have := pcsL_few (fits_down hf) (by omega) l h4 0 (sumT l) rfl h3
  omega
theorem hung1 (a n : Int) (x : H4) : hungS a n x = (x.1 + a / n, x.2.1 + upS a n, x.2.2) := rfl
def Above (x y : H4) : Prop := y.1 ≤ x.1 ∧ y.2.1 ≤ x.2.1
theorem bent_same_up {mu b : R2} {o : Int} {x y : H4} (hu : OkMu mu) (hb : OkB b) (h : Above x y) : Above (bentS 1 mu b o x) (bentS 1 mu b o y) := by
  obtain ⟨k1, k2⟩ := hu.k hb
  rw [bent1, bent1]
  exact ⟨addLow h.1 k1.1 (Int.le_refl _) k1.2, addUp h.2 k2.1 (Int.le_refl _) k2.2⟩
theorem bent_same_down {mu b : R2} {o : Int} {x y : H4} (hu : OkMu mu) (hb : OkB b) (h : Above x y) : Above (bentS 2 mu b o x) (bentS 2 mu b o y) := by
  obtain ⟨k1, k2⟩ := hu.k hb
  rw [bent2, bent2]
  exact ⟨subUp h.1 k2.1 (Int.le_refl _) k2.2, subLow h.2 k1.1 (Int.le_refl _) k1.2⟩
theorem abs_nn (n : Int) : 0 ≤ absI n := by rw [absI_eq]; split <;> omega
theorem bent_up_spin {mu b : R2} {o : Int} {x y : H4} (hu : OkMu mu) (hb : OkB b) (h : Above x y) : Above (bentS 1 mu b o x) (bentS 3 mu b o y) := by
  obtain ⟨k1, k2⟩ := hu.k hb
  rw [bent1, bent3]
  have a := (low_rng (abs_nn x.1) k1.1 k1.2).1
  have c := (up_rng (abs_nn x.2.1) k2.1 k2.2).1
  obtain ⟨h1, h2⟩ := h
  exact ⟨by dsimp only; omega, by dsimp only; omega⟩
theorem bent_spin_down {mu b : R2} {o : Int} {x y : H4} (hu : OkMu mu) (hb : OkB b) (h : Above x y) : Above (bentS 3 mu b o x) (bentS 2 mu b o y) := by
  obtain ⟨k1, k2⟩ := hu.k hb
  rw [bent2, bent3]
  have a := (up_rng (abs_nn y.1) k2.1 k2.2).1
  have c := (low_rng (abs_nn y.2.1) k1.1 k1.2).1
  obtain ⟨h1, h2⟩ := h
  exact ⟨by dsimp only; omega, by dsimp only; omega⟩
theorem hung_above {a n : Int} {x y : H4} (h : Above x y) : Above (hungS a n x) (hungS a n y) := by
  obtain ⟨h1, h2⟩ := h
  rw [hung1, hung1]
  exact ⟨by dsimp only; omega, by dsimp only; omega⟩
def modeC (c : Cs) (m : Int) : Cs := (m, c.2)
theorem pc_ok {l : List Tb} {p : Pth} {c : Cs} (hc : CaseOk l c) {b : Int} {q : Pc} (hl : legOk (pcV p q)) (ht : Fair (pcT l q)) (hm : pcT l q ∈ l) (hw : 0 < q.2.2.2 - q.2.2.1 ∧ q.2.2.2 - q.2.2.1 ≤ 1048576) : PcOk l p c q := by
  have h1 := hc.wet _ hm
  have h2 := (ht.wet hc.mud.1 hc.mud.2).2
  have h3 := mul_rng (a := wetS (pcT l q) c.2.1) (b := q.2.2.2 - q.2.2.1) (A := 4000000) (B := 1048576) (by omega) (by omega) (by omega) hw.2
  have h4 : 1 * 1 ≤ wetS (pcT l q) c.2.1 * (q.2.2.2 - q.2.2.1) := Int.mul_le_mul (by omega) (by omega) (by decide) (by omega)
  exact ⟨ht, by show 0 < wetS (pcT l q) c.2.1 * (q.2.2.2 - q.2.2.1); omega, by show wetS (pcT l q) c.2.1 * (q.2.2.2 - q.2.2.1) ≤ _; omega, hl⟩
def AllB (R : Hg → Hg → Prop) (a b : List Hg) : Prop := a.length = b.length ∧ ∀ i : Nat, i < a.length → R (a.getD i (0, (0, 0), (0, 0))) (b.getD i (0, (0, 0), (0, 0)))
theorem AllB.nil {R : Hg → Hg → Prop} : AllB R [] [] := ⟨rfl, fun i h => (by cases h)⟩
theorem AllB.cons {R : Hg → Hg → Prop} {x y : Hg} {a b : List Hg} (h : R x y) (hs : AllB R a b) : AllB R (x :: a) (y :: b) := by
  refine ⟨by rw [List.length_cons, List.length_cons, hs.1], fun i hi => ?_⟩
  cases i with
  | zero => exact h
  | succ i =>
    rw [List.getD_cons_succ, List.getD_cons_succ]
    exact hs.2 i (by simpa using hi)
theorem runs_rel {l : List Tb} {p : Pth} {c d : Cs} (I : Nat → H4 → H4 → Prop) (R : Hg → Hg → Prop)
    (hstep : ∀ (n : Nat) (b : Int) (q : Pc) (x y : H4), n < 160 → (b ≥ 0 → b ≠ q.2.1 → OkB (bendV (pcV p q) (p.2.getD b.toNat zV))) → legOk (pcV p q) → Fair (pcT l q) → pcT l q ∈ l → (0 < q.2.2.2 - q.2.2.1 ∧ q.2.2.2 - q.2.2.1 ≤ 1048576) → pcV p q ∈ p.2 → I n x y →
      ¬ wildS (step1 l p c b q x) = true → ¬ wildS (step2 l p c q (step1 l p c b q x)) = true → ¬ wildS (step3 l p c q (step2 l p c q (step1 l p c b q x))) = true →
      I (n + 1) (step3 l p c q (step2 l p c q (step1 l p c b q x))) (step3 l p d q (step2 l p d q (step1 l p d b q y))) ∧
      R (hangS q.2.2.1 (step3 l p c q (step2 l p c q (step1 l p c b q x)))) (hangS q.2.2.1 (step3 l p d q (step2 l p d q (step1 l p d b q y))))) :
    ∀ (m : List Pc) (n : Nat) (b : Int) (x y : H4), n + m.length ≤ 160 → Chain l p b m → I n x y → (runS l p c b x m).1 = true → (runS l p d b y m).1 = true → AllB R (runS l p c b x m).2.1 (runS l p d b y m).2.1 := by
  intro m
  induction m with
  | nil => intro n b x y _ _ _ _ _; exact AllB.nil
  | cons q r ih =>
    intro n b x y hn hch hI hx hy
    rw [List.length_cons] at hn
    rw [runS_cons] at hx ⊢
    split at hx
    · cases hx
    rename_i w1
    rw [if_neg w1]
    split at hx
    · cases hx
    rename_i w2
    rw [if_neg w2]
    split at hx
    · cases hx
    rename_i w3
    rw [if_neg w3]
    rw [runS_cons] at hy ⊢
    split at hy
    · cases hy
    rename_i v1
    rw [if_neg v1]
    split at hy
    · cases hy
    rename_i v2
    rw [if_neg v2]
    split at hy
    · cases hy
    rename_i v3
    rw [if_neg v3]
    cases hch with
    | cons _ _ _ hb hl ht hm hw hg hr =>
      obtain ⟨hI', hR⟩ := hstep n b q x y (by omega) hb hl ht hm hw hg hI w1 w2 w3
      exact AllB.cons hR (ih (n + 1) _ _ _ (by omega) hr hI' hx hy)
theorem runs_tame {l : List Tb} {p : Pth} {c d : Cs} (I : Nat → H4 → H4 → Prop)
    (hstep : ∀ (n : Nat) (b : Int) (q : Pc) (x y : H4), n < 160 → (b ≥ 0 → b ≠ q.2.1 → OkB (bendV (pcV p q) (p.2.getD b.toNat zV))) → legOk (pcV p q) → Fair (pcT l q) → pcT l q ∈ l → (0 < q.2.2.2 - q.2.2.1 ∧ q.2.2.2 - q.2.2.1 ≤ 1048576) → I n x y →
      ¬ wildS (step1 l p c b q x) = true → ¬ wildS (step2 l p c q (step1 l p c b q x)) = true → ¬ wildS (step3 l p c q (step2 l p c q (step1 l p c b q x))) = true →
      I (n + 1) (step3 l p c q (step2 l p c q (step1 l p c b q x))) (step3 l p d q (step2 l p d q (step1 l p d b q y))) ∧
      ¬ wildS (step1 l p d b q y) = true ∧ ¬ wildS (step2 l p d q (step1 l p d b q y)) = true ∧ ¬ wildS (step3 l p d q (step2 l p d q (step1 l p d b q y))) = true) :
    ∀ (m : List Pc) (n : Nat) (b : Int) (x y : H4), n + m.length ≤ 160 → Chain l p b m → I n x y → (runS l p c b x m).1 = true → (runS l p d b y m).1 = true := by
  intro m
  induction m with
  | nil => intro n b x y _ _ _ _; rfl
  | cons q r ih =>
    intro n b x y hn hch hI hx
    rw [List.length_cons] at hn
    rw [runS_cons] at hx ⊢
    split at hx
    · cases hx
    rename_i w1
    split at hx
    · cases hx
    rename_i w2
    split at hx
    · cases hx
    rename_i w3
    cases hch with
    | cons _ _ _ hb hl ht hm hw hg hr =>
      obtain ⟨hI', v1, v2, v3⟩ := hstep n b q x y (by omega) hb hl ht hm hw hI w1 w2 w3
      rw [if_neg v1, if_neg v2, if_neg v3]
      exact ih (n + 1) _ _ _ (by omega) hr hI' hx
theorem step1_eq (l : List Tb) (p : Pth) (c : Cs) (b : Int) (q : Pc) (x : H4) : step1 l p c b q x = if b ≥ 0 ∧ b ≠ q.2.1 then bentS c.1 c.2.2.1 (bendV (pcV p q) (p.2.getD b.toNat zV)) (pcT l q).2.2.2.2.1 x else x := rfl
theorem rub_up_spin {a b o : Int} {x y : H4} (h : Above x y) (hf : OkF a b) : Above (rubS 1 a b o x) (rubS 3 a b o y) := by
  obtain ⟨h1, h2⟩ := h
  obtain ⟨f1, f2, f3⟩ := hf
  rw [rub1, rub3]
  exact ⟨by dsimp only; omega, by dsimp only; omega⟩
theorem rub_spin_down {a b o : Int} {x y : H4} (h : Above x y) (hf : OkF a b) : Above (rubS 3 a b o x) (rubS 2 a b o y) := by
  obtain ⟨h1, h2⟩ := h
  obtain ⟨f1, f2, f3⟩ := hf
  rw [rub2, rub3]
  exact ⟨by dsimp only; omega, by dsimp only; omega⟩
theorem loads_run {l : List Tb} {p : Pth} {c : Cs} (h : (loadsS l p c).1 ≠ []) : fitsS l p = 0 ∧ caseS l c = 0 ∧ (runS l p c (-1) (startS c) (pcsS l p)).1 = true ∧ (loadsS l p c).1 = (runS l p c (-1) (startS c) (pcsS l p)).2.1 := by
  unfold loadsS at *
  split at h
  · exact absurd rfl h
  rename_i h1
  split at h
  · exact absurd rfl h
  rename_i h2
  split at h
  · rename_i h3
    rw [if_neg h1, if_neg h2, if_pos h3]
    exact ⟨by simpa using h1, by simpa using h2, h3, rfl⟩
  · exact absurd rfl h
theorem loads_err {l : List Tb} {p : Pth} {c : Cs} (h : (loadsS l p c).2.2 ≠ 0) : (loadsS l p c).1 = [] := by
  unfold loadsS at *
  split
  · rfl
  split
  · rfl
  split
  · rename_i h1 h2 h3
    rw [if_neg h1, if_neg h2, if_pos h3] at h
    exact absurd rfl h
  · rfl
def RAbove (a b : Hg) : Prop := b.2.1.1 ≤ a.2.1.1 ∧ b.2.1.2 ≤ a.2.1.2
theorem modes_up_spin {l : List Tb} {p : Pth} {c : Cs} (hc : CaseOk l c) (m : List Pc) (b : Int) (x y : H4) (hm : m.length ≤ 160) (hch : Chain l p b m) (h : Above x y)
    (hx : (runS l p (modeC c 1) b x m).1 = true) (hy : (runS l p (modeC c 3) b y m).1 = true) : AllB RAbove (runS l p (modeC c 1) b x m).2.1 (runS l p (modeC c 3) b y m).2.1 := by
  refine runs_rel (fun _ x y => Above x y) RAbove ?_ m 0 b x y (by omega) hch h hx hy
  intro n b q x y hn hb hl ht hmm hw hg hI _ _ _
  have hpc := pc_ok hc hl ht hmm hw (b := b)
  have h1 : Above (step1 l p (modeC c 1) b q x) (step1 l p (modeC c 3) b q y) := by
    rw [step1_eq, step1_eq]
    split
    · rename_i e
      exact bent_up_spin hc.mu (hb e.1 e.2) hI
    · exact hI
  have h3 : Above (step3 l p (modeC c 1) q (step2 l p (modeC c 1) q (step1 l p (modeC c 1) b q x))) (step3 l p (modeC c 3) q (step2 l p (modeC c 3) q (step1 l p (modeC c 3) b q y))) :=
    rub_up_spin (hung_above h1) (hpc.rub hc.mu).1
  exact ⟨h3, h3⟩
theorem modes_spin_down {l : List Tb} {p : Pth} {c : Cs} (hc : CaseOk l c) (m : List Pc) (b : Int) (x y : H4) (hm : m.length ≤ 160) (hch : Chain l p b m) (h : Above x y)
    (hx : (runS l p (modeC c 3) b x m).1 = true) (hy : (runS l p (modeC c 2) b y m).1 = true) : AllB RAbove (runS l p (modeC c 3) b x m).2.1 (runS l p (modeC c 2) b y m).2.1 := by
  refine runs_rel (fun _ x y => Above x y) RAbove ?_ m 0 b x y (by omega) hch h hx hy
  intro n b q x y hn hb hl ht hmm hw hg hI _ _ _
  have hpc := pc_ok hc hl ht hmm hw (b := b)
  have h1 : Above (step1 l p (modeC c 3) b q x) (step1 l p (modeC c 2) b q y) := by
    rw [step1_eq, step1_eq]
    split
    · rename_i e
      exact bent_spin_down hc.mu (hb e.1 e.2) hI
    · exact hI
  have h3 : Above (step3 l p (modeC c 3) q (step2 l p (modeC c 3) q (step1 l p (modeC c 3) b q x))) (step3 l p (modeC c 2) q (step2 l p (modeC c 2) q (step1 l p (modeC c 2) b q y))) :=
    rub_spin_down (hung_above h1) (hpc.rub hc.mu).1
  exact ⟨h3, h3⟩
theorem modes_still {l : List Tb} {p : Pth} {c : Cs} (hc : CaseOk l c) {k : Int} (hk : k = 1 ∨ k = 2) (m : List Pc) (b : Int) (x : H4) (hm : m.length ≤ 160) (hch : Chain l p b m) (h : x.2.2 = (0, 0))
    (hx : (runS l p (modeC c k) b x m).1 = true) : AllB (fun a _ => a.2.2 = (0, 0)) (runS l p (modeC c k) b x m).2.1 (runS l p (modeC c k) b x m).2.1 := by
  refine runs_rel (fun _ x _ => x.2.2 = (0, 0)) _ ?_ m 0 b x x (by omega) hch h hx hx
  intro n b q x y hn hb hl ht hmm hw hg hI _ _ _
  have h1 : (step1 l p (modeC c k) b q x).2.2 = (0, 0) := by
    rw [step1_eq]
    split
    · rcases hk with rfl | rfl
      · show (bentS 1 _ _ _ x).2.2 = _
        rw [bent1]; exact hI
      · show (bentS 2 _ _ _ x).2.2 = _
        rw [bent2]; exact hI
    · exact hI
  have h3 : (step3 l p (modeC c k) q (step2 l p (modeC c k) q (step1 l p (modeC c k) b q x))).2.2 = (0, 0) := by
    rcases hk with rfl | rfl
    · show (rubS 1 _ _ _ _).2.2 = _
      rw [rub1]; exact h1
    · show (rubS 2 _ _ _ _).2.2 = _
      rw [rub2]; exact h1
  exact ⟨h3, h3⟩
def TorI (n : Nat) (x : H4) : Prop := 0 ≤ x.2.2.1 ∧ x.2.2.1 ≤ 1125899906842624 * n
theorem modes_spin {l : List Tb} {p : Pth} {c : Cs} (hc : CaseOk l c) (m : List Pc) (b : Int) (x : H4) (hm : m.length ≤ 160) (hch : Chain l p b m) (h0 : OkX x.1 x.2.1) (h : TorI 0 x)
    (hx : (runS l p (modeC c 3) b x m).1 = true) : AllB (fun a _ => 0 ≤ a.2.2.1) (runS l p (modeC c 3) b x m).2.1 (runS l p (modeC c 3) b x m).2.1 := by
  refine runs_rel (fun n x _ => OkX x.1 x.2.1 ∧ TorI n x) _ ?_ m 0 b x x (by omega) hch ⟨h0, h⟩ hx hx
  intro n b q x y hn hb hl ht hmm hw hg hI w1 w2 w3
  obtain ⟨hX, t1, t2⟩ := hI
  have hpc := pc_ok hc hl ht hmm hw (b := b)
  have hF := (hpc.rub hc.mu).1
  have ho := ht.out
  have s1 : (step1 l p (modeC c 3) b q x).1 ≤ (step1 l p (modeC c 3) b q x).2.1 ∧ 0 ≤ (step1 l p (modeC c 3) b q x).2.2.1 ∧ (step1 l p (modeC c 3) b q x).2.2.1 ≤ 1125899906842624 * n + 197912092999680 := by
    rw [step1_eq]
    split
    · rename_i e
      have hB := hb e.1 e.2
      obtain ⟨k1, k2⟩ := hc.mu.k hB
      have hlr := least_rng hX
      have r1 := low_rng hlr.1 k1.1 k1.2
      have r2 := mul_rng (b := (pcT l q).2.2.2.2.1) r1.1 (show lowS9 (leastS x.1 x.2.1) c.2.2.1.1 (bendV (pcV p q) (p.2.getD b.toNat zV)).1 ≤ 4398046511104 by omega) (by omega) ho.2
      refine ⟨bent_order (mode := 3) (by decide) hX hc.mu hB, ?_⟩
      show 0 ≤ (bentS 3 c.2.2.1 (bendV (pcV p q) (p.2.getD b.toNat zV)) (pcT l q).2.2.2.2.1 x).2.2.1 ∧ (bentS 3 c.2.2.1 (bendV (pcV p q) (p.2.getD b.toNat zV)) (pcT l q).2.2.2.2.1 x).2.2.1 ≤ _
      rw [bent3]
      dsimp only
      generalize lowS9 (leastS x.1 x.2.1) c.2.2.1.1 (bendV (pcV p q) (p.2.getD b.toNat zV)).1 * (pcT l q).2.2.2.2.1 = z at *
      rw [W_id (by omega) (by omega)]
      omega
    · exact ⟨hX.2.1, by omega, by omega⟩
  obtain ⟨o1, o2, o3⟩ := s1
  have oh := hung_order (a := pcW l (modeC c 3) q * (pcV p q).2.2) (n := (wholeS (pcV p q)).1) (x := step1 l p (modeC c 3) b q x) (by have := hl.2.1; omega) o1
  have r3 := mul_rng (a := rubLo l p (modeC c 3) q) (b := (pcT l q).2.2.2.2.1) (A := 17592186044416) (B := 90) hF.1 (by have := hF.2.1; have := hF.2.2; exact Int.le_trans hF.2.1 hF.2.2) (by omega) ho.2
  have hT : TorI (n + 1) (step3 l p (modeC c 3) q (step2 l p (modeC c 3) q (step1 l p (modeC c 3) b q x))) := by
    show 0 ≤ (rubS 3 (rubLo l p (modeC c 3) q) (rubHi l p (modeC c 3) q) (pcT l q).2.2.2.2.1 (step2 l p (modeC c 3) q (step1 l p (modeC c 3) b q x))).2.2.1 ∧ (rubS 3 (rubLo l p (modeC c 3) q) (rubHi l p (modeC c 3) q) (pcT l q).2.2.2.2.1 (step2 l p (modeC c 3) q (step1 l p (modeC c 3) b q x))).2.2.1 ≤ _
    rw [rub3]
    dsimp only
    have e : (step2 l p (modeC c 3) q (step1 l p (modeC c 3) b q x)).2.2.1 = (step1 l p (modeC c 3) b q x).2.2.1 := rfl
    rw [e]
    generalize rubLo l p (modeC c 3) q * (pcT l q).2.2.2.2.1 = z at *
    rw [W_id (by omega) (by omega)]
    omega
  exact ⟨⟨tame (rub_order (mode := 3) (by decide) oh hF.2.1) w3, hT⟩, hT.1⟩
theorem T_lawLoads (l_0 : List Tb) (p_0 p_1 p_2 : Int) (p_3 : List V) (c_0 c_1 c_2 c_3 c_4 m : Int) : fnTree (P := P) [c_Loads.gc] (lpOf []) Try.f20 (encL 0 [.agg tTs, .agg (.pair tV tVs), .agg (.pair tI (.pair tI (.pair tPart tI))), .val tI] (l_0, ((p_0, (p_1, p_2)), p_3), (c_0, (c_1, ((c_2, c_3), c_4))), m, ())) =
  Tree.need ((↑(List.length l_0) : Int) < (2 : Int) ^ (62 : Nat)) (Tree.cond ((loadsS l_0 ((p_0, p_1, p_2), p_3) (m, c_1, (c_2, c_3), c_4)).snd.snd != (0 : Int)) (Tree.leaf SV.nils) (Tree.leaf (SV.sl (Ty.pair tI (Ty.pair tPart tPart)) (loadsS l_0 ((p_0, p_1, p_2), p_3) (m, c_1, (c_2, c_3), c_4)).fst))) := by kernel_rfl
def c_lawLoads : PC P := PC.of (α := List Tb × (V × List V) × (Int × (Int × ((Int × Int) × Int))) × Int × Unit) 20 [.agg tTs, .agg (.pair tV tVs), .agg (.pair tI (.pair tI (.pair tPart tI))), .val tI] (fun x => x) (fun x => x) (fun _ => rfl)
  (fun x => some ((x.1.length : Int) < 2 ^ 62))
  (fun x => .sl tHg (loadsS x.1 x.2.1 (modeC x.2.2.1 x.2.2.2.1)).1) (by kernel_rfl) (by
    rintro ⟨l_0, ⟨⟨p_0, ⟨p_1, p_2⟩⟩, p_3⟩, ⟨c_0, ⟨c_1, ⟨⟨c_2, c_3⟩, c_4⟩⟩⟩, m, ⟨⟩⟩ hp
    refine fn_le hm (by kernel_rfl) (by kernel_rfl) (T_lawLoads l_0 p_0 p_1 p_2 p_3 c_0 c_1 c_2 c_3 c_4 m) trivial (by kernel_rfl) ?_
    try dsimp only at hp
    try dsimp only
    have h62 : (l_0.length : Int) < 2 ^ 62 := hp
    show Tree.holds (fun s => LeS s (SV.sl tHg (loadsS l_0 ((p_0, p_1, p_2), p_3) (m, c_1, (c_2, c_3), c_4)).1)) _
    refine ⟨h62, fun d1 => ?_, fun d1 => rfl⟩
    rw [loads_err (by simpa using d1)]
    exact rfl)
structure ModOk (a b d : List Hg) : Prop where
  ab : AllB RAbove a b
  bd : AllB RAbove b d
  sa : AllB (fun x _ => x.2.2 = (0, 0)) a a
  sd : AllB (fun x _ => x.2.2 = (0, 0)) d d
  sb : AllB (fun x _ => 0 ≤ x.2.2.1) b b
  few : a.length ≤ 160
theorem modes_ok {l : List Tb} {p : Pth} {c : Cs} (hu : OkMu c.2.2.1) (ha : (loadsS l p (modeC c 1)).1 ≠ []) (hb : (loadsS l p (modeC c 3)).1 ≠ []) (hd : (loadsS l p (modeC c 2)).1 ≠ []) : ModOk (loadsS l p (modeC c 1)).1 (loadsS l p (modeC c 3)).1 (loadsS l p (modeC c 2)).1 := by
  obtain ⟨f, ca, ra, ea⟩ := loads_run ha
  obtain ⟨_, cb, rb, eb⟩ := loads_run hb
  obtain ⟨_, cd, rd, ed⟩ := loads_run hd
  have hc : CaseOk l (modeC c 1) := (caseS_ok ca).2
  have hc' : CaseOk l c ∨ True := .inr trivial
  have hm := pcsS_few f
  have hch := chain_all f
  have hbit := hc.bit
  have hm1 : modeC (modeC c 1) 1 = modeC c 1 := rfl
  have hm2 : modeC (modeC c 1) 2 = modeC c 2 := rfl
  have hm3 : modeC (modeC c 1) 3 = modeC c 3 := rfl
  have s1 : startS (modeC c 1) = (c.2.2.2, c.2.2.2, 0, 0) := if_pos rfl
  have s2 : startS (modeC c 2) = (-c.2.2.2, -c.2.2.2, 0, 0) := if_neg (show ¬ (2 : Int) = 1 by decide)
  have s3 : startS (modeC c 3) = (-c.2.2.2, -c.2.2.2, 0, 0) := if_neg (show ¬ (3 : Int) = 1 by decide)
  have hb0 : 0 ≤ c.2.2.2 ∧ c.2.2.2 ≤ 1099511627776 := hbit
  rw [ea, eb, ed]
  refine ⟨?_, ?_, ?_, ?_, ?_, ?_⟩
  · exact modes_up_spin hc _ _ _ _ hm hch (by rw [s1, s3]; exact ⟨by dsimp only; omega, by dsimp only; omega⟩) ra rb
  · exact modes_spin_down hc _ _ _ _ hm hch (by rw [s2, s3]; exact ⟨Int.le_refl _, Int.le_refl _⟩) rb rd
  · exact modes_still hc (.inl rfl) _ _ _ hm hch (by rw [s1]) ra
  · exact modes_still hc (.inr rfl) _ _ _ hm hch (by rw [s2]) rd
  · refine modes_spin hc _ _ _ hm hch ?_ ?_ rb
    · rw [s3]; exact ⟨by dsimp only; omega, Int.le_refl _, by dsimp only; omega⟩
    · rw [s3]; exact ⟨Int.le_refl _, Int.le_refl _⟩
  · rw [(runS_len _ _ _ _ _ _ ra).1]; exact hm
def L_PipeModesL : Lay := { slots := [(7, .val (.sl (.pair tI (.pair tPart tPart)))), (8, .val (.sl (.pair tI (.pair tPart tPart)))), (9, .val (.sl (.pair tI (.pair tPart tPart)))), (10, .val tI)] }
def L_PipeModesL_0 : Lay := { slots := [(2, .val .bool)] }
def L_PipeModesL_1 : Lay := { slots := [] }
def X_PipeModesL : Exit → St → Option Lay
  | .ret, _ => some L_PipeModesL_0
  | .exit 0, _ => some L_PipeModesL_1
  | _, _ => none
abbrev C_PipeModesL : Code := loopC (bodyOf Try.f4) 0
theorem B_PipeModesL (a b d : List (Int × ((Int × Int) × (Int × Int)))) (i : Int) : loopBodyA (P := P) [] (lpOf []) [] 151 noU (inner C_PipeModesL) L_PipeModesL X_PipeModesL (α := List (Int × ((Int × Int) × (Int × Int))) × List (Int × ((Int × Int) × (Int × Int))) × List (Int × ((Int × Int) × (Int × Int))) × Int × Unit) (fun x => x) (fun x => x) (a, b, d, i, ()) =
  Tree.cond (decide (i < (↑(List.length a) : Int))) (Tree.need ((0 : Int) ≤ i ∧ i < (↑(List.length a) : Int)) (Tree.need ((0 : Int) ≤ i ∧ i < (↑(List.length b) : Int)) (Tree.cond (decide ((List.getD a (Int.toNat i) ((0 : Int), ((0 : Int), (0 : Int)), (0 : Int), (0 : Int))).snd.fst.fst < (List.getD b (Int.toNat i) ((0 : Int), ((0 : Int), (0 : Int)), (0 : Int), (0 : Int))).snd.fst.fst)) (Tree.leaf (Sum.inr (Exit.ret, Lay.st L_PipeModesL_0 noU (false, PUnit.unit)))) (Tree.need ((0 : Int) ≤ i ∧ i < (↑(List.length a) : Int)) (Tree.need ((0 : Int) ≤ i ∧ i < (↑(List.length b) : Int)) (Tree.cond (decide ((List.getD a (Int.toNat i) ((0 : Int), ((0 : Int), (0 : Int)), (0 : Int), (0 : Int))).snd.fst.snd < (List.getD b (Int.toNat i) ((0 : Int), ((0 : Int), (0 : Int)), (0 : Int), (0 : Int))).snd.fst.snd)) (Tree.leaf (Sum.inr (Exit.ret, Lay.st L_PipeModesL_0 noU (false, PUnit.unit)))) (Tree.need ((0 : Int) ≤ i ∧ i < (↑(List.length b) : Int)) (Tree.need ((0 : Int) ≤ i ∧ i < (↑(List.length d) : Int)) (Tree.cond (decide ((List.getD b (Int.toNat i) ((0 : Int), ((0 : Int), (0 : Int)), (0 : Int), (0 : Int))).snd.fst.fst < (List.getD d (Int.toNat i) ((0 : Int), ((0 : Int), (0 : Int)), (0 : Int), (0 : Int))).snd.fst.fst)) (Tree.leaf (Sum.inr (Exit.ret, Lay.st L_PipeModesL_0 noU (false, PUnit.unit)))) (Tree.need ((0 : Int) ≤ i ∧ i < (↑(List.length b) : Int)) (Tree.need ((0 : Int) ≤ i ∧ i < (↑(List.length d) : Int)) (Tree.cond (decide ((List.getD b (Int.toNat i) ((0 : Int), ((0 : Int), (0 : Int)), (0 : Int), (0 : Int))).snd.fst.snd < (List.getD d (Int.toNat i) ((0 : Int), ((0 : Int), (0 : Int)), (0 : Int), (0 : Int))).snd.fst.snd)) (Tree.leaf (Sum.inr (Exit.ret, Lay.st L_PipeModesL_0 noU (false, PUnit.unit)))) (Tree.need ((0 : Int) ≤ i ∧ i < (↑(List.length a) : Int)) (Tree.cond (!((List.getD a (Int.toNat i) ((0 : Int), ((0 : Int), (0 : Int)), (0 : Int), (0 : Int))).snd.snd.fst == (0 : Int) && ((List.getD a (Int.toNat i) ((0 : Int), ((0 : Int), (0 : Int)), (0 : Int), (0 : Int))).snd.snd.snd == (0 : Int) && true))) (Tree.leaf (Sum.inr (Exit.ret, Lay.st L_PipeModesL_0 noU (false, PUnit.unit)))) (Tree.need ((0 : Int) ≤ i ∧ i < (↑(List.length d) : Int)) (Tree.cond (!((List.getD d (Int.toNat i) ((0 : Int), ((0 : Int), (0 : Int)), (0 : Int), (0 : Int))).snd.snd.fst == (0 : Int) && ((List.getD d (Int.toNat i) ((0 : Int), ((0 : Int), (0 : Int)), (0 : Int), (0 : Int))).snd.snd.snd == (0 : Int) && true))) (Tree.leaf (Sum.inr (Exit.ret, Lay.st L_PipeModesL_0 noU (false, PUnit.unit)))) (Tree.need ((0 : Int) ≤ i ∧ i < (↑(List.length b) : Int)) (Tree.cond (decide ((List.getD b (Int.toNat i) ((0 : Int), ((0 : Int), (0 : Int)), (0 : Int), (0 : Int))).snd.snd.fst < (0 : Int))) (Tree.leaf (Sum.inr (Exit.ret, Lay.st L_PipeModesL_0 noU (false, PUnit.unit)))) (Tree.leaf (Sum.inl (a, b, d, IntKind.wrap IntKind.i64 (i + (1 : Int)), PUnit.unit))))))))))))))))))))) (Tree.leaf (Sum.inr (Exit.exit (0 : Nat), Lay.st L_PipeModesL_1 noU PUnit.unit))) := by kernel_rfl
def inv_PipeModesL : List (Int × ((Int × Int) × (Int × Int))) × List (Int × ((Int × Int) × (Int × Int))) × List (Int × ((Int × Int) × (Int × Int))) × Int × Unit → Prop := fun (a, b, d, i, ()) => 0 ≤ i ∧ i ≤ a.length ∧ ModOk a b d ∧ (a.length : Int) < 2 ^ 62
def O_PipeModesL : List (Int × ((Int × Int) × (Int × Int))) × List (Int × ((Int × Int) × (Int × Int))) × List (Int × ((Int × Int) × (Int × Int))) × Int × Unit → Tree (Exit × St) := fun (a, b, d, i, ()) => (.leaf (.exit 0, L_PipeModesL_1.st noU ()))
def R_PipeModesL : LRun := runOf 151 L_PipeModesL (fun x => x) (inv_PipeModesL) (O_PipeModesL)
theorem K_PipeModesL : LoopOk P [] 151 none noU C_PipeModesL (R_PipeModesL) := by
  refine loop_of hm (cx := []) [] (xl := X_PipeModesL) (α := List (Int × ((Int × Int) × (Int × Int))) × List (Int × ((Int × Int) × (Int × Int))) × List (Int × ((Int × Int) × (Int × Int))) × Int × Unit) (fun x => x) (fun (a, b, d, i, ()) => (a.length - i).toNat) (fun _ => rfl) (by kernel_rfl) (by kernel_rfl) ?_ (by kernel_rfl) trivial ?_
  · intro e S L' h
    unfold X_PipeModesL at h
    split at h <;> first | (cases h; done) | (cases h; kernel_rfl) | (rcases bif_some h with h | h <;> cases h <;> kernel_rfl)
  · rintro ⟨a, b, d, i, ⟨⟩⟩ hinv Q hQ
    refine hold_of_eq (B_PipeModesL a b d i) ?_
    obtain ⟨h0, h1, hok, h2⟩ := hinv
    rw [W_id (n := i + 1) (by omega) (by omega)]
    refine ⟨fun c1 => ?_, fun c1 => hQ⟩
    have c1 := of_decide_eq_true c1
    have l1 := hok.ab.1
    have l2 := hok.bd.1
    have i1 : 0 ≤ i ∧ i < (a.length : Int) := ⟨h0, c1⟩
    have i2 : 0 ≤ i ∧ i < (b.length : Int) := by omega
    have i3 : 0 ≤ i ∧ i < (d.length : Int) := by omega
    obtain ⟨r1, r2⟩ := hok.ab.2 i.toNat (by omega)
    obtain ⟨r3, r4⟩ := hok.bd.2 i.toNat (by omega)
    have r5 := hok.sa.2 i.toNat (by omega)
    have r6 := hok.sd.2 i.toNat (by omega)
    have r7 := hok.sb.2 i.toNat (by omega)
    dsimp only at r5 r6 r7
    refine ⟨i1, i2, fun d => absurd (of_decide_eq_true d) (by omega), fun _ => ⟨i1, i2, fun d => absurd (of_decide_eq_true d) (by omega), fun _ => ⟨i2, i3, fun d => absurd (of_decide_eq_true d) (by omega), fun _ => ⟨i2, i3, fun d => absurd (of_decide_eq_true d) (by omega), fun _ => ⟨i1, fun d => ?_, fun _ => ⟨i3, fun d => ?_, fun _ => ⟨i2, fun d => absurd (of_decide_eq_true d) (by omega), fun _ => ⟨⟨⟨by omega, by omega, hok, h2⟩, by show ((a.length : Int) - (i + 1)).toNat < ((a.length : Int) - i).toNat; omega⟩, hQ⟩⟩⟩⟩⟩⟩⟩⟩
    · rw [r5] at d; exact absurd d (by decide)
    · rw [r6] at d; exact absurd d (by decide)
theorem T_PipeModes (s0 : List Int) : fnTree (P := P) [c_made.gc, c_awake.gc, c_lawLoads.gc] (lpOf [(0, R_PipeModesL)]) Try.f4 (encL 0 [.val tIs] (s0, ())) =
  Tree.need (pr_made (s0, ())) (Tree.cond (!(V_made (s0, ())).snd.snd.snd) (Tree.leaf (SV.bool true)) (Tree.need ((↑(List.length (V_made (s0, ())).snd.fst) : Int) < (2 : Int) ^ (62 : Nat)) (Tree.need ((↑(List.length (V_made (s0, ())).snd.fst) : Int) < (2 : Int) ^ (62 : Nat)) (Tree.need ((↑(List.length (V_made (s0, ())).snd.fst) : Int) < (2 : Int) ^ (62 : Nat)) (Tree.cond ((↑(List.length (loadsS (V_made (s0, ())).snd.fst (V_made (s0, ())).fst (modeC (V_made (s0, ())).snd.snd.fst (1 : Int))).fst) : Int) == (0 : Int)) (Tree.leaf (SV.bool true)) (Tree.cond ((↑(List.length (loadsS (V_made (s0, ())).snd.fst (V_made (s0, ())).fst (modeC (V_made (s0, ())).snd.snd.fst (3 : Int))).fst) : Int) == (0 : Int)) (Tree.leaf (SV.bool true)) (Tree.cond ((↑(List.length (loadsS (V_made (s0, ())).snd.fst (V_made (s0, ())).fst (modeC (V_made (s0, ())).snd.snd.fst (2 : Int))).fst) : Int) == (0 : Int)) (Tree.leaf (SV.bool true)) (Tree.cond ((↑(List.length (loadsS (V_made (s0, ())).snd.fst (V_made (s0, ())).fst (modeC (V_made (s0, ())).snd.snd.fst (1 : Int))).fst) : Int) != (↑(List.length (loadsS (V_made (s0, ())).snd.fst (V_made (s0, ())).fst (modeC (V_made (s0, ())).snd.snd.fst (3 : Int))).fst) : Int)) (Tree.leaf (SV.bool false)) (Tree.cond ((↑(List.length (loadsS (V_made (s0, ())).snd.fst (V_made (s0, ())).fst (modeC (V_made (s0, ())).snd.snd.fst (3 : Int))).fst) : Int) != (↑(List.length (loadsS (V_made (s0, ())).snd.fst (V_made (s0, ())).fst (modeC (V_made (s0, ())).snd.snd.fst (2 : Int))).fst) : Int)) (Tree.leaf (SV.bool false)) (Tree.need (inv_PipeModesL ((loadsS (V_made (s0, ())).snd.fst (V_made (s0, ())).fst (modeC (V_made (s0, ())).snd.snd.fst (1 : Int))).fst, (loadsS (V_made (s0, ())).snd.fst (V_made (s0, ())).fst (modeC (V_made (s0, ())).snd.snd.fst (3 : Int))).fst, (loadsS (V_made (s0, ())).snd.fst (V_made (s0, ())).fst (modeC (V_made (s0, ())).snd.snd.fst (2 : Int))).fst, (0 : Int), ())) (Tree.leaf (SV.bool true)))))))))))) := by kernel_rfl
def c_PipeModes : PC P := PC.of (α := List Int × Unit) 4 [.val tIs] (fun x => x) (fun x => x) (fun _ => rfl)
  (fun _ => none)
  (fun x => .bool true) (by kernel_rfl) (by
    rintro ⟨s0, ⟨⟩⟩ hp
    refine fn_of hm (by kernel_rfl) (by kernel_rfl) (T_PipeModes s0) ⟨K_PipeModesL, trivial⟩ ?_
    try dsimp only at hp
    try dsimp only
    have hS := S_made (s0, ()) trivial
    generalize V_made (s0, ()) = m at *
    obtain ⟨p, l, c, is⟩ := m
    obtain ⟨h1, h2, h3, h4, h5, h6, h7, h8, h9, h10⟩ := hS
    dsimp only at h1 h2 h3 h4 h5 h6 h7 h8 h9 h10 ⊢
    have hlen : (l.length : Int) < 2 ^ 62 := by omega
    have nn : ∀ z : List Hg, ((z.length : Int) == 0) = false → z ≠ [] := fun z hz e => by rw [e] at hz; exact absurd hz (by decide)
    refine ⟨trivial, fun d1 => rfl, fun d1 => ⟨hlen, hlen, hlen, fun d2 => rfl, fun d2 => ⟨fun d3 => rfl, fun d3 => ⟨fun d4 => rfl, fun d4 => ?_⟩⟩⟩⟩
    have hok := modes_ok (l := l) (p := p) (c := c) h9 (nn _ d2) (nn _ d3) (nn _ d4)
    have q1 := hok.ab.1
    have q2 := hok.bd.1
    have q3 := hok.few
    refine ⟨fun d5 => ?_, fun d5 => ⟨fun d6 => ?_, fun d6 => ⟨⟨by decide, by omega, hok, by omega⟩, rfl⟩⟩⟩
    · exact absurd d5 (by rw [q1]; simp)
    · exact absurd d6 (by rw [q2]; simp))
end
end Go.MP
