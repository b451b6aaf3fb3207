/- Places along a path: joints lie at their depths, and no place is farther from another one than their depths. -/
import Derived.Test.YtnlflnbbgklalaaMpL
namespace Go.MP
open Go Go.Sx Go.Proofs
set_option linter.unusedVariables false
set_option linter.unusedSimpArgs false
noncomputable section

theorem floorW_eq {a b : Int} (ha : -4611686018427387904 ≤ a ∧ a ≤ 4611686018427387904) (hb : 0 < b) : floorW a b = a / b := by
  unfold floorW
  have h1 := Int.tdiv_eq_ediv (a := a) (b := b)
  have h2 := Int.mul_ediv_add_emod a b
  have h3 := Int.emod_nonneg a (show b ≠ 0 by omega)
  have h4 := Int.emod_lt_of_pos a hb
  have hq : -4611686018427387904 ≤ a / b ∧ a / b ≤ 4611686018427387904 := by
    constructor
    · have := Int.ediv_le_ediv hb ha.1
      have h5 : -4611686018427387904 ≤ (-4611686018427387904 : Int) / b := by
        rw [Int.le_ediv_iff_mul_le hb]
        omega
      omega
    · rcases Int.le_total 0 a with h | h
      · have := Int.ediv_le_self b h; omega
      · have : a / b ≤ 0 := Int.ediv_nonpos_of_nonpos_of_neg' h hb
        omega
  have hs : b.sign = 1 := Int.sign_eq_one_of_pos hb
  rcases tmod_pos (a := a) hb with e | ⟨e, hn⟩
  · have hd : Int.tdiv a b = a / b := by
      have h5 := Int.mul_tdiv_add_tmod a b
      rw [e] at h5
      have h6 : b * Int.tdiv a b = b * (a / b) := by omega
      exact Int.eq_of_mul_eq_mul_left (by omega) h6
    rw [if_neg (by omega), hd, W_id (by omega) (by omega)]
  · have hd : Int.tdiv a b = a / b + 1 := by
      have h5 := Int.mul_tdiv_add_tmod a b
      rw [e] at h5
      have h6 : b * Int.tdiv a b = b * (a / b + 1) := by rw [Int.mul_add, Int.mul_one]; omega
      exact Int.eq_of_mul_eq_mul_left (by omega) h6
    rw [if_pos (by omega), hd, W_id (n := a / b + 1) (by omega) (by omega), W_id (n := a / b + 1 - 1) (by omega) (by omega)]
    omega
where
  Int.ediv_nonpos_of_nonpos_of_neg' {a b : Int} (h : a ≤ 0) (hb : 0 < b) : a / b ≤ 0 := by
    have := Int.ediv_le_ediv hb h
    rwa [Int.zero_ediv] at this

/-- Places and legs of a valid path, from a joint on. -/
def goodL : V → List V → Prop
  | a, [] => validS a = true
  | a, v :: r => validS a = true ∧ legOk v ∧ goodL (vadd a v) r
theorem checkL_good : ∀ {l : List V} {a : V} {prev : Option V}, validS a = true → checkL a prev l = 0 → goodL a l
  | [], _, _, h, _ => h
  | v :: r, a, prev, h, hc => by
    obtain ⟨h1, _, h3, h4⟩ := checkL_zero hc
    exact ⟨h, h1, checkL_good h3 h4⟩
theorem checkS_good {p : Pth} (h : checkS p = 0) : goodL p.1 p.2 := by
  unfold checkS at h
  split at h
  · cases h
  · split at h
    · cases h
    · rename_i h1
      exact checkL_good (by simpa using h1) h
theorem good_valid : ∀ {l : List V} {a : V}, goodL a l → validS a = true
  | [], _, h => h
  | _ :: _, _, h => h.1
theorem valid_in {a : V} (h : validS a = true) : inB a 1048576 = true := by
  unfold validS at h
  simp only [Bool.and_eq_true] at h
  exact h.1
theorem leg_in {v : V} (h : legOk v) : inB v (wholeS v).1 = true := (wholeS_true h.1).2.2.2.1
theorem vadd_eq {a b : V} {A : Int} (ha : inB a A = true) (hb : inB b A = true) (hA : A ≤ 4611686018427387903) : vadd a b = (a.1 + b.1, a.2.1 + b.2.1, a.2.2 + b.2.2) := by
  rw [inB_iff] at ha hb
  unfold vadd
  rw [W_id (n := a.1 + b.1) (by omega) (by omega), W_id (n := a.2.1 + b.2.1) (by omega) (by omega), W_id (n := a.2.2 + b.2.2) (by omega) (by omega)]

/-- Where one is after t on a vector of the length n. -/
def onLeg (a v : V) (t n : Int) : V := (a.1 + v.1 * t / n, a.2.1 + v.2.1 * t / n, a.2.2 + v.2.2 * t / n)
/-- The place at a depth. -/
def posL (d : Int) : V → Int → List V → V
  | a, _, [] => a
  | a, dep, v :: r => if d ≥ dep + (wholeS v).1 then posL d (vadd a v) (dep + (wholeS v).1) r else onLeg a v (d - dep) (wholeS v).1

theorem ediv_rng {x n t : Int} (hn : 0 < n) (hx : -n ≤ x ∧ x ≤ n) (ht : 0 ≤ t) : -t ≤ x * t / n ∧ x * t / n ≤ t := by
  constructor
  · rw [Int.le_ediv_iff_mul_le hn]
    have := Int.mul_le_mul_of_nonneg_right hx.1 ht
    have e : -t * n = -n * t := by grind
    omega
  · have : x * t ≤ t * n := by
      have := Int.mul_le_mul_of_nonneg_right hx.2 ht
      have e : t * n = n * t := by grind
      omega
    have := Int.ediv_le_ediv hn this
    rwa [Int.mul_ediv_cancel _ (show n ≠ 0 by omega)] at this
theorem atLeg_eq {d dep : Int} {a v : V} (ha : validS a = true) (hv : legOk v) (h0 : 0 ≤ d - dep) (h1 : d - dep ≤ 1099511627776) : atLeg d a dep v = onLeg a v (if d - dep < (wholeS v).1 then d - dep else (wholeS v).1) (wholeS v).1 := by
  have hv' := hv
  obtain ⟨_, k1, k2⟩ := hv'
  have hin := leg_in hv
  have hmin : minI (d - dep) (wholeS v).1 = if d - dep < (wholeS v).1 then d - dep else (wholeS v).1 := by
    unfold minI; split <;> split <;> omega
  unfold atLeg
  rw [W_id (n := d - dep) (by omega) (by omega), hmin]
  have ht : 0 ≤ (if d - dep < (wholeS v).1 then d - dep else (wholeS v).1) ∧ (if d - dep < (wholeS v).1 then d - dep else (wholeS v).1) ≤ (wholeS v).1 := by split <;> omega
  generalize (if d - dep < (wholeS v).1 then d - dep else (wholeS v).1) = t at *
  generalize (wholeS v).1 = n at *
  have hi := valid_in ha
  have hin2 := hin
  rw [inB_iff] at hin2
  have m1 := mulB (a := v.1) (b := t) (A := 131072) (B := 131072) (by omega) (by omega)
  have m2 := mulB (a := v.2.1) (b := t) (A := 131072) (B := 131072) (by omega) (by omega)
  have m3 := mulB (a := v.2.2) (b := t) (A := 131072) (B := 131072) (by omega) (by omega)
  rw [W_id (n := v.1 * t) (by omega) (by omega), W_id (n := v.2.1 * t) (by omega) (by omega), W_id (n := v.2.2 * t) (by omega) (by omega), floorW_eq (by omega) (by omega), floorW_eq (by omega) (by omega), floorW_eq (by omega) (by omega)]
  have r1 := ediv_rng (x := v.1) (show 0 < n by omega) (by omega) ht.1
  have r2 := ediv_rng (x := v.2.1) (show 0 < n by omega) (by omega) ht.1
  have r3 := ediv_rng (x := v.2.2) (show 0 < n by omega) (by omega) ht.1
  exact vadd_eq hi (inB_iff.2 ⟨⟨by dsimp only; omega, by dsimp only; omega⟩, ⟨by dsimp only; omega, by dsimp only; omega⟩, ⟨by dsimp only; omega, by dsimp only; omega⟩⟩) (by decide)
theorem onLeg_end {a v : V} {n : Int} (hn : 0 < n) (ha : validS a = true) (hv : inB v n = true) (h2 : n ≤ 131072) : onLeg a v n n = vadd a v := by
  rw [vadd_eq (valid_in ha) (inB_mono hv (by omega)) (by decide)]
  unfold onLeg
  rw [Int.mul_ediv_cancel _ (by omega), Int.mul_ediv_cancel _ (by omega), Int.mul_ediv_cancel _ (by omega)]

theorem atL_pos {d : Int} : ∀ {l : List V} {a acc : V} {dep : Int}, goodL a l → 0 ≤ dep → dep ≤ d → d ≤ 1099511627776 → dep + 131072 * l.length ≤ 1099511627776 → (l = [] → acc = a) → (atL d a dep acc l).1 = posL d a dep l
  | [], a, acc, dep, _, _, _, _, _, h => h rfl
  | v :: r, a, acc, dep, hg, h0, h1, h2, h3, _ => by
    obtain ⟨ha, hv, hr⟩ := hg
    have hv' := hv
    obtain ⟨_, k1, k2⟩ := hv'
    simp only [List.length_cons] at h3
    unfold atL posL
    rw [if_neg (by omega), W_id (n := dep + (wholeS v).1) (by omega) (by omega), atLeg_eq ha hv (by omega) (by omega)]
    by_cases hd : d ≥ dep + (wholeS v).1
    · rw [if_pos hd, if_neg (by omega), onLeg_end (by omega) ha (leg_in hv) k2]
      exact atL_pos hr (by omega) (by omega) h2 (by omega) (fun _ => rfl)
    · rw [if_neg hd, if_pos (by omega)]
      cases r with
      | nil => rfl
      | cons u q =>
        unfold atL
        rw [if_pos (by omega)]

theorem at_val {p : Pth} {d : Int} (h : checkS p = 0) (h0 : 0 ≤ d) (h1 : d ≤ lenS p) : atS p d = (posL d p.1 0 p.2, true) := by
  have hl := checkS_len h
  have hr := lenS_rng p
  unfold atS
  rw [if_pos ⟨h, h0, h1⟩, atL_pos (checkS_good h) (by omega) h0 (by omega) (by omega) (fun _ => rfl)]

/-! ### No place is farther than its depth -/
def near (a b : V) (k : Int) : Prop := (-k ≤ a.1 - b.1 ∧ a.1 - b.1 ≤ k) ∧ (-k ≤ a.2.1 - b.2.1 ∧ a.2.1 - b.2.1 ≤ k) ∧ (-k ≤ a.2.2 - b.2.2 ∧ a.2.2 - b.2.2 ≤ k)
theorem ediv_step {x n t : Int} (hn : 0 < n) (hx : -n ≤ x ∧ x ≤ n) : -1 ≤ x * (t + 1) / n - x * t / n ∧ x * (t + 1) / n - x * t / n ≤ 1 := by
  have e : x * (t + 1) = x * t + x := by grind
  have h1 : x * (t + 1) ≤ x * t + 1 * n := by omega
  have h2 : x * t + (-1) * n ≤ x * (t + 1) := by omega
  have h3 := Int.ediv_le_ediv hn h1
  have h4 := Int.ediv_le_ediv hn h2
  rw [Int.add_mul_ediv_right _ _ (show n ≠ 0 by omega)] at h3 h4
  omega
theorem posL_start : ∀ {l : List V} {a : V} {dep : Int}, (∀ v ∈ l, legOk v) → posL dep a dep l = a
  | [], _, _, _ => rfl
  | v :: r, a, dep, h => by
    obtain ⟨_, k1, k2⟩ := h v (by simp)
    unfold posL
    rw [if_neg (by omega)]
    unfold onLeg
    simp
theorem good_legs : ∀ {l : List V} {a : V}, goodL a l → ∀ v ∈ l, legOk v
  | [], _, _, v, h => by cases h
  | u :: r, a, hg, v, h => by
    rcases List.mem_cons.1 h with rfl | h
    · exact hg.2.1
    · exact good_legs hg.2.2 v h
theorem posL_step {d : Int} : ∀ {l : List V} {a : V} {dep : Int}, goodL a l → dep ≤ d → near (posL (d + 1) a dep l) (posL d a dep l) 1
  | [], a, dep, _, _ => ⟨⟨by simp [posL], by simp [posL]⟩, ⟨by simp [posL], by simp [posL]⟩, ⟨by simp [posL], by simp [posL]⟩⟩
  | v :: r, a, dep, hg, h => by
    obtain ⟨ha, hv, hr⟩ := hg
    have hv' := hv
    obtain ⟨_, k1, k2⟩ := hv'
    have hin := leg_in hv
    have hin' := hin
    rw [inB_iff] at hin'
    by_cases h1 : d ≥ dep + (wholeS v).1
    · unfold posL
      rw [if_pos h1, if_pos (by omega)]
      exact posL_step hr h1
    · by_cases h2 : d + 1 ≥ dep + (wholeS v).1
      · have e : posL (d + 1) a dep (v :: r) = onLeg a v (d - dep + 1) (wholeS v).1 := by
          unfold posL
          rw [if_pos h2, show d + 1 = dep + (wholeS v).1 by omega, posL_start (good_legs hr), show d - dep + 1 = (wholeS v).1 by omega, onLeg_end (by omega) ha hin k2]
        have e2 : posL d a dep (v :: r) = onLeg a v (d - dep) (wholeS v).1 := by
          unfold posL
          rw [if_neg h1]
        rw [e, e2]
        have s1 := ediv_step (x := v.1) (t := d - dep) (show 0 < (wholeS v).1 by omega) hin'.1
        have s2 := ediv_step (x := v.2.1) (t := d - dep) (show 0 < (wholeS v).1 by omega) hin'.2.1
        have s3 := ediv_step (x := v.2.2) (t := d - dep) (show 0 < (wholeS v).1 by omega) hin'.2.2
        unfold onLeg near
        dsimp only
        omega
      · unfold posL
        rw [if_neg h1, if_neg h2, show d + 1 - dep = d - dep + 1 by omega]
        have s1 := ediv_step (x := v.1) (t := d - dep) (show 0 < (wholeS v).1 by omega) hin'.1
        have s2 := ediv_step (x := v.2.1) (t := d - dep) (show 0 < (wholeS v).1 by omega) hin'.2.1
        have s3 := ediv_step (x := v.2.2) (t := d - dep) (show 0 < (wholeS v).1 by omega) hin'.2.2
        unfold onLeg near
        dsimp only
        omega
theorem posL_lip {l : List V} {a : V} {d : Int} (hg : goodL a l) (h : 0 ≤ d) : ∀ (k : Nat), near (posL (d + k) a 0 l) (posL d a 0 l) k
  | 0 => by rw [show d + ((0 : Nat) : Int) = d by omega]; unfold near; omega
  | k + 1 => by
    have h1 := posL_lip hg h k
    have h2 := posL_step (d := d + k) (l := l) (a := a) (dep := 0) hg (by omega)
    rw [show d + ((k + 1 : Nat) : Int) = d + (k : Int) + 1 by omega]
    unfold near at *
    omega
theorem pos_near {l : List V} {a : V} {d e : Int} (hg : goodL a l) (hd : 0 ≤ d) (he : 0 ≤ e) (m : Int) (h1 : d - e ≤ m) (h2 : e - d ≤ m) : near (posL d a 0 l) (posL e a 0 l) m := by
  rcases Int.le_total d e with h | h
  · have := posL_lip hg hd (e - d).toNat
    rw [show d + (((e - d).toNat : Nat) : Int) = e by omega] at this
    unfold near at *
    omega
  · have := posL_lip hg he (d - e).toNat
    rw [show e + (((d - e).toNat : Nat) : Int) = d by omega] at this
    unfold near at *
    omega

/-! ### Joints lie at their depths -/
theorem posL_joint : ∀ {l : List V} {a : V} {dep : Int} {i : Nat}, goodL a l → 0 ≤ dep → dep + 131072 * l.length ≤ 1099511627776 → i ≤ l.length →
    posL (((dep, a.2.2) :: kl a dep l).getD i (0, 0)).1 a dep l = (jl a l).getD i (0, 0, 0) ∧ dep ≤ (((dep, a.2.2) :: kl a dep l).getD i (0, 0)).1 ∧ (((dep, a.2.2) :: kl a dep l).getD i (0, 0)).1 ≤ sumL dep l
  | [], a, dep, i, hg, h0, _, hi => by
    have : i = 0 := by simpa using hi
    subst this
    exact ⟨rfl, by simp, by simp [sumL]⟩
  | v :: r, a, dep, 0, hg, h0, h1, hi => by
    have hs := sumL_rng (s := dep) (good_legs hg) h0 (by omega)
    refine ⟨?_, by simp, ?_⟩
    · show posL dep a dep (v :: r) = a
      exact posL_start (good_legs hg)
    · show dep ≤ sumL dep (v :: r)
      exact sumL_ge (good_legs hg) h0 h1
  | v :: r, a, dep, i + 1, hg, h0, h1, hi => by
    obtain ⟨ha, hv, hr⟩ := hg
    have hv' := hv
    obtain ⟨_, k1, k2⟩ := hv'
    simp only [List.length_cons] at h1 hi
    have e1 : IntKind.wrap IntKind.i64 (dep + (wholeS v).1) = dep + (wholeS v).1 := W_id (by omega) (by omega)
    have ez : (vadd a v).2.2 = IntKind.wrap IntKind.i64 (a.2.2 + v.2.2) := rfl
    obtain ⟨j1, j2, j3⟩ := posL_joint (i := i) (dep := dep + (wholeS v).1) hr (by omega) (by omega) (by omega)
    have e2 : (((dep, a.2.2) :: kl a dep (v :: r)).getD (i + 1) (0, 0)) = (((dep + (wholeS v).1, (vadd a v).2.2) :: kl (vadd a v) (dep + (wholeS v).1) r).getD i (0, 0)) := by
      show ((kl a dep (v :: r)).getD i (0, 0)) = _
      rw [kl, e1, ez]
    have e3 : sumL dep (v :: r) = sumL (dep + (wholeS v).1) r := by
      unfold sumL
      rw [List.foldl_cons, e1]
    rw [e2, e3]
    refine ⟨?_, by omega, j3⟩
    rw [show (jl a (v :: r)).getD (i + 1) (0, 0, 0) = (jl (vadd a v) r).getD i (0, 0, 0) from rfl, ← j1]
    rw [posL, if_pos j2]
where
  sumL_ge : ∀ {l : List V} {s : Int}, (∀ v ∈ l, legOk v) → 0 ≤ s → s + 131072 * l.length ≤ 1099511627776 → s ≤ sumL s l
    | [], s, _, _, _ => by simp [sumL]
    | v :: r, s, h, h0, h1 => by
      obtain ⟨_, k1, k2⟩ := h v (by simp)
      simp only [List.length_cons] at h1
      have e3 : sumL s (v :: r) = sumL (s + (wholeS v).1) r := by
        unfold sumL
        rw [List.foldl_cons, W_id (by omega) (by omega)]
      have := sumL_ge (l := r) (s := s + (wholeS v).1) (fun u hu => h u (by simp [hu])) (by omega) (by omega)
      omega

/-! ### The law PathAlong -/
def farS (a b : V) (m : Int) : Bool := decide (m < IntKind.wrap IntKind.i64 (a.1 - b.1) ∨ m < IntKind.wrap IntKind.i64 (0 - IntKind.wrap IntKind.i64 (a.1 - b.1))) ||
  (decide (m < IntKind.wrap IntKind.i64 (a.2.1 - b.2.1) ∨ m < IntKind.wrap IntKind.i64 (0 - IntKind.wrap IntKind.i64 (a.2.1 - b.2.1))) ||
   decide (m < IntKind.wrap IntKind.i64 (a.2.2 - b.2.2) ∨ m < IntKind.wrap IntKind.i64 (0 - IntKind.wrap IntKind.i64 (a.2.2 - b.2.2))))
def anyFar (m : Int) : List Int → Bool
  | [] => false
  | x :: r => decide (m < x ∨ m < IntKind.wrap IntKind.i64 (0 - x)) || anyFar m r

def L_far : Lay := { slots := [(2, .val tI), (7, .val tIs), (8, .val tI)] }
def L_far_0 : Lay := { slots := [] }
def L_far_1 : Lay := { slots := [(6, .val .bool)] }
def X_far : Exit → Option Lay
  | .exit 0 => some L_far_0
  | .ret => some L_far_1
  | _ => none
abbrev C_far : Code := loopC (bodyOf Try.f39) 0
theorem B_far (m : Int) (l : List Int) (i : Int) : loopBodyA (P := P) [] (lpOf []) [] 46 noU (inner C_far) L_far X_far (α := Int × List Int × Int × Unit) (fun x => x) (fun x => x) (m, l, i, ()) =
  Tree.cond (decide (i < (↑(List.length l) : Int))) (Tree.need ((0 : Int) ≤ i ∧ i < (↑(List.length l) : Int)) (Tree.cond (decide (List.getD l (Int.toNat i) (0 : Int) > m)) (Tree.leaf (Sum.inr (Exit.ret, Lay.st L_far_1 noU (true, PUnit.unit)))) (Tree.need ((0 : Int) ≤ i ∧ i < (↑(List.length l) : Int)) (Tree.cond (decide (IntKind.wrap IntKind.i64 ((0 : Int) - List.getD l (Int.toNat i) (0 : Int)) > m)) (Tree.leaf (Sum.inr (Exit.ret, Lay.st L_far_1 noU (true, PUnit.unit)))) (Tree.leaf (Sum.inl (m, l, IntKind.wrap IntKind.i64 (i + (1 : Int)), PUnit.unit))))))) (Tree.leaf (Sum.inr (Exit.exit (0 : Nat), Lay.st L_far_0 noU PUnit.unit))) := by kernel_rfl

def inv_far : Int × List Int × Int × Unit → Prop := fun (m, l, i, _) => l.length = 3 ∧ 0 ≤ i ∧ i ≤ 3
def O_far : Int × List Int × Int × Unit → Tree (Exit × St) := fun (m, l, i, _) => .cond (anyFar m (l.drop i.toNat)) (.leaf (.ret, L_far_1.st noU (true, ()))) (.leaf (.exit 0, L_far_0.st noU ()))
def R_far : LRun := runOf 46 L_far (fun x => x) (inv_far) (O_far)
theorem K_far : LoopOk P [] 46 none noU C_far (R_far) := by
  refine loop_of hm (cx := []) [] (xl := X_far) (α := Int × List Int × Int × Unit) (fun x => x) (fun (m, l, i, _) => (3 - i).toNat) (fun _ => rfl) (by kernel_rfl) (by kernel_rfl) ?_ (by kernel_rfl) trivial ?_
  · intro e L' h
    unfold X_far at h
    split at h <;> cases h <;> kernel_rfl
  · rintro ⟨m, l, i, ⟨⟩⟩ hinv Q hQ
    refine hold_of_eq (B_far m l i) ?_

    obtain ⟨h0, h1, h2⟩ := hinv
    rw [W_id (n := i + 1) (by omega) (by omega)]
    unfold O_far at hQ
    dsimp only at hQ
    refine ⟨fun hi => ?_, fun hi => ?_⟩
    · simp only [decide_eq_true_eq] at hi
      have hm : (3 - (i + 1)).toNat < (3 - i).toNat := by omega
      rw [drop_step 0 h1 hi, anyFar] at hQ
      refine ⟨⟨h1, hi⟩, fun hx => ?_, fun hx => ⟨⟨h1, hi⟩, fun hy => ?_, fun hy => ?_⟩⟩
      · simp only [gt_iff_lt, decide_eq_true_eq] at hx
        rw [decide_eq_true (Or.inl hx), Bool.true_or] at hQ
        exact hQ.1 rfl
      · simp only [gt_iff_lt, decide_eq_true_eq] at hy
        rw [decide_eq_true (Or.inr hy), Bool.true_or] at hQ
        exact hQ.1 rfl
      · simp only [gt_iff_lt, decide_eq_false_iff_not] at hx hy
        rw [decide_eq_false (by omega), Bool.false_or] at hQ
        exact ⟨⟨⟨h0, by omega, by omega⟩, hm⟩, hQ⟩
    · simp only [decide_eq_false_iff_not] at hi
      rw [drop_end hi] at hQ
      exact hQ.2 rfl

theorem T_far (x y z a b c m : Int) : fnTree (P := P) [] (lpOf [(0, R_far)]) Try.f39 (encL 0 [.agg tV, .agg tV, .val tI] ((x, y, z), (a, b, c), m, ())) =
  Tree.need (inv_far (m, [IntKind.wrap IntKind.i64 (x - a), IntKind.wrap IntKind.i64 (y - b), IntKind.wrap IntKind.i64 (z - c)], (0 : Int), ())) (Tree.cond (anyFar m (List.drop (Int.toNat (0 : Int)) [IntKind.wrap IntKind.i64 (x - a), IntKind.wrap IntKind.i64 (y - b), IntKind.wrap IntKind.i64 (z - c)])) (Tree.leaf (SV.bool true)) (Tree.leaf (SV.bool false))) := by kernel_rfl

def c_far : PC P := PC.of (α := V × V × Int × Unit) 39 [.agg tV, .agg tV, .val tI] (fun x => x) (fun x => x) (fun _ => rfl)
  (fun _ => none)
  (fun x => .bool (farS x.1 x.2.1 x.2.2.1)) (by kernel_rfl) (by
    rintro ⟨⟨x, y, z⟩, ⟨a, b, c⟩, m, ⟨⟩⟩ hp
    refine fn_of hm (by kernel_rfl) (by kernel_rfl) (T_far x y z a b c m) ⟨K_far, trivial⟩ ?_

    show Tree.holds (fun s => s = SV.bool (farS (x, y, z) (a, b, c) m)) _
    have e : ∀ p q r : Int, anyFar m (List.drop (Int.toNat 0) [p, q, r]) = (decide (m < p ∨ m < IntKind.wrap IntKind.i64 (0 - p)) || (decide (m < q ∨ m < IntKind.wrap IntKind.i64 (0 - q)) || decide (m < r ∨ m < IntKind.wrap IntKind.i64 (0 - r)))) := fun p q r => by
      show (_ || (_ || (_ || false))) = _
      rw [Bool.or_false]
    rw [e]
    refine ⟨⟨rfl, by decide, by decide⟩, fun h => ?_, fun h => ?_⟩
    · show SV.bool _ = SV.bool _
      exact congrArg _ h.symm
    · show SV.bool _ = SV.bool _
      exact congrArg _ h.symm)

def L_Along : Lay := { slots := [(7, .ptr 8155 0), (13, .val tVs), (14, .ptr 15155 0), (15, .val tI)], boxes := [(8155, [.val tI, .val tI, .val tI, .val tVs]), (15155, [.val (.sl tK)])] }
def L_Along_0 : Lay := { slots := [] }
def L_Along_1 : Lay := { slots := [(6, .val .bool)] }
def X_Along : Exit → Option Lay
  | .exit 0 => some L_Along_0
  | .ret => some L_Along_1
  | _ => none
abbrev C_Along : Code := loopC (bodyOf Try.f6) 0
theorem B_Along (j : List V) (i x y z : Int) (l : List V) (ks : List K2) : loopBodyA (P := P) [c_At.gc] (lpOf []) [] 155 noU (inner C_Along) L_Along X_Along (α := Unit × List V × Unit × Int × Int × Int × Int × List V × List K2 × Unit) (fun x => x) (fun x => x) ((), j, (), i, x, y, z, l, ks, ()) =
  Tree.cond (decide (i < (↑(List.length j) : Int))) (Tree.need ((0 : Int) ≤ i ∧ i < (↑(List.length ks) : Int)) (Tree.cond (!(atS ((x, y, z), l) (List.getD ks (Int.toNat i) ((0 : Int), (0 : Int))).fst).snd) (Tree.leaf (Sum.inr (Exit.ret, Lay.st L_Along_1 noU (false, PUnit.unit)))) (Tree.need ((0 : Int) ≤ i ∧ i < (↑(List.length j) : Int)) (Tree.cond (!((atS ((x, y, z), l) (List.getD ks (Int.toNat i) ((0 : Int), (0 : Int))).fst).fst.fst == (List.getD j (Int.toNat i) ((0 : Int), (0 : Int), (0 : Int))).fst && ((atS ((x, y, z), l) (List.getD ks (Int.toNat i) ((0 : Int), (0 : Int))).fst).fst.snd.fst == (List.getD j (Int.toNat i) ((0 : Int), (0 : Int), (0 : Int))).snd.fst && ((atS ((x, y, z), l) (List.getD ks (Int.toNat i) ((0 : Int), (0 : Int))).fst).fst.snd.snd == (List.getD j (Int.toNat i) ((0 : Int), (0 : Int), (0 : Int))).snd.snd && true)))) (Tree.leaf (Sum.inr (Exit.ret, Lay.st L_Along_1 noU (false, PUnit.unit)))) (Tree.need ((0 : Int) ≤ i ∧ i < (↑(List.length ks) : Int)) (Tree.need ((0 : Int) ≤ i ∧ i < (↑(List.length j) : Int)) (Tree.cond ((List.getD ks (Int.toNat i) ((0 : Int), (0 : Int))).snd != (List.getD j (Int.toNat i) ((0 : Int), (0 : Int), (0 : Int))).snd.snd) (Tree.leaf (Sum.inr (Exit.ret, Lay.st L_Along_1 noU (false, PUnit.unit)))) (Tree.cond (decide (i > (0 : Int))) (Tree.need ((0 : Int) ≤ i ∧ i < (↑(List.length ks) : Int)) (Tree.need ((0 : Int) ≤ IntKind.wrap IntKind.i64 (i - (1 : Int)) ∧ IntKind.wrap IntKind.i64 (i - (1 : Int)) < (↑(List.length ks) : Int)) (Tree.cond (decide ((List.getD ks (Int.toNat i) ((0 : Int), (0 : Int))).fst ≤ (List.getD ks (Int.toNat (IntKind.wrap IntKind.i64 (i - (1 : Int)))) ((0 : Int), (0 : Int))).fst)) (Tree.leaf (Sum.inr (Exit.ret, Lay.st L_Along_1 noU (false, PUnit.unit)))) (Tree.leaf (Sum.inl (PUnit.unit, j, PUnit.unit, IntKind.wrap IntKind.i64 (i + (1 : Int)), x, y, z, l, ks, PUnit.unit)))))) (Tree.leaf (Sum.inl (PUnit.unit, j, PUnit.unit, IntKind.wrap IntKind.i64 (i + (1 : Int)), x, y, z, l, ks, PUnit.unit))))))))))) (Tree.leaf (Sum.inr (Exit.exit (0 : Nat), Lay.st L_Along_0 noU PUnit.unit))) := by kernel_rfl

def inv_Along : Unit × List V × Unit × Int × Int × Int × Int × List V × List K2 × Unit → Prop := fun (_, j, _, i, x, y, z, l, ks, _) => checkS ((x, y, z), l) = 0 ∧ j = jl (x, y, z) l ∧ ks = knots (x, y, z) l ∧ 0 ≤ i ∧ i ≤ j.length
def O_Along : Unit × List V × Unit × Int × Int × Int × Int × List V × List K2 × Unit → Tree (Exit × St) := fun _ => .leaf (.exit 0, L_Along_0.st noU ())
def R_Along : LRun := runOf 155 L_Along (fun x => x) (inv_Along) (O_Along)
theorem K_Along : LoopOk P [] 155 none noU C_Along (R_Along) := by
  refine loop_of hm (cx := [c_At.gc]) [] (xl := X_Along) (α := Unit × List V × Unit × Int × Int × Int × Int × List V × List K2 × Unit) (fun x => x) (fun (_, j, _, i, _) => (j.length - i).toNat) (fun _ => rfl) (by kernel_rfl) (by kernel_rfl) ?_ (by kernel_rfl) trivial ?_
  · intro e L' h
    unfold X_Along at h
    split at h <;> cases h <;> kernel_rfl
  · rintro ⟨⟨⟩, j, ⟨⟩, i, x, y, z, l, ks, ⟨⟩⟩ hinv Q hQ
    refine hold_of_eq (B_Along j i x y z l ks) ?_

    obtain ⟨hc, hj, hks, h0, h1⟩ := hinv
    have hlen := checkS_len hc
    have hl : l.length ≤ 20 := hlen
    have hjl : j.length = l.length + 1 := by rw [hj, jl_length]
    rw [W_id (n := i + 1) (by omega) (by omega), W_id (n := i - 1) (by omega) (by omega)]
    have hkl : ks.length = l.length + 1 := by rw [hks, knots_length]
    refine ⟨fun hi => ?_, fun hi => hQ⟩
    simp only [decide_eq_true_eq] at hi
    have hm : ((j.length : Int) - (i + 1)).toNat < ((j.length : Int) - i).toNat := by omega
    obtain ⟨p1, p2, p3⟩ := posL_joint (l := l) (a := (x, y, z)) (dep := 0) (i := i.toNat) (checkS_good hc) (by omega) (by omega) (by omega)
    have ek : ((0, z) :: kl (x, y, z) 0 l) = ks := by rw [hks]; rfl
    have hlen' : lenS ((x, y, z), l) = sumL 0 l := if_pos hc
    dsimp only at p1 p2 p3
    rw [ek, ← hj] at p1
    rw [ek] at p2 p3
    have ha := at_val (p := ((x, y, z), l)) hc p2 (by rw [hlen']; exact p3)
    dsimp only at ha
    rw [p1] at ha
    have hz := knots_z (l := l) (a := (x, y, z)) (i := i.toNat) (by omega)
    rw [← hks, ← hj] at hz
    rw [ha, hz]
    refine ⟨⟨h0, by omega⟩, fun h => by simp at h, fun _ => ⟨⟨h0, hi⟩, fun h => by simp at h, fun _ => ⟨⟨h0, by omega⟩, ⟨h0, hi⟩, fun h => by simp at h, fun _ => ⟨fun hp => ?_, fun hp => ?_⟩⟩⟩⟩
    · simp only [gt_iff_lt, decide_eq_true_eq] at hp
      have hk := knots_next (l := l) (a := (x, y, z)) (i := (i - 1).toNat) (by omega)
      rw [show (i - 1).toNat + 1 = i.toNat by omega, ← hks] at hk
      have hg : legOk (l.getD (i - 1).toNat (0, 0, 0)) := checkS_legs hc _ (getD_mem (d := (0, 0, 0)) (show (i - 1).toNat < l.length by omega))
      obtain ⟨_, g1, g2⟩ := hg
      obtain ⟨_, q2, q3⟩ := posL_joint (l := l) (a := (x, y, z)) (dep := 0) (i := (i - 1).toNat) (checkS_good hc) (by omega) (by omega) (by omega)
      dsimp only at q2 q3
      rw [ek] at q2 q3
      have hr := lenS_rng ((x, y, z), l)
      have e1 : (ks.getD i.toNat (0, 0)).1 = (ks.getD (i - 1).toNat (0, 0)).1 + (wholeS (l.getD (i - 1).toNat (0, 0, 0))).1 := by
        rw [hk]
        exact W_id (by omega) (by omega)
      refine ⟨⟨h0, by omega⟩, ⟨by omega, by omega⟩, fun h => ?_, fun _ => ⟨⟨⟨hc, hj, hks, by omega, by omega⟩, hm⟩, hQ⟩⟩
      simp only [decide_eq_true_eq] at h
      omega
    · exact ⟨⟨⟨hc, hj, hks, by omega, by omega⟩, hm⟩, hQ⟩

theorem kl_last : ∀ {l : List V} {a : V} {dep : Int}, (∀ v ∈ l, legOk v) → 0 ≤ dep → dep + 131072 * l.length ≤ 1099511627776 → (((dep, a.2.2) :: kl a dep l).getD l.length (0, 0)).1 = sumL dep l
  | [], _, _, _, _, _ => rfl
  | v :: r, a, dep, h, h0, h1 => by
    obtain ⟨_, k1, k2⟩ := h v (by simp)
    simp only [List.length_cons] at h1
    have e1 : IntKind.wrap IntKind.i64 (dep + (wholeS v).1) = dep + (wholeS v).1 := W_id (by omega) (by omega)
    have e3 : sumL dep (v :: r) = sumL (dep + (wholeS v).1) r := by
      unfold sumL
      rw [List.foldl_cons, e1]
    have ih := kl_last (l := r) (a := vadd a v) (dep := dep + (wholeS v).1) (fun u hu => h u (by simp [hu])) (by omega) (by omega)
    rw [e3, ← ih]
    show ((kl a dep (v :: r)).getD r.length (0, 0)).1 = _
    rw [kl, e1]
    rfl
theorem far_near {a b : V} {m M : Int} (h : near a b m) (hm : m ≤ 1099511627776) (hM : m ≤ M) : farS a b M = false := by
  unfold near at h
  unfold farS
  rw [W_id (n := a.1 - b.1) (by omega) (by omega), W_id (n := a.2.1 - b.2.1) (by omega) (by omega), W_id (n := a.2.2 - b.2.2) (by omega) (by omega), W_id (n := 0 - (a.1 - b.1)) (by omega) (by omega), W_id (n := 0 - (a.2.1 - b.2.1)) (by omega) (by omega), W_id (n := 0 - (a.2.2 - b.2.2)) (by omega) (by omega)]
  rw [decide_eq_false (by omega), decide_eq_false (by omega), decide_eq_false (by omega)]
  rfl

theorem T_PathAlong (nums : List Int) (d e : Int) : fnTree (P := P) [c_awake.gc, c_NewRing.gc, c_kPath.gc, c_Length.gc, c_Mod64.gc, c_At.gc, c_far.gc, c_Joints.gc, c_Vert.gc] (lpOf [(0, R_Along)]) Try.f6 (encL 0 [.val tIs, .val tI, .val tI] (nums, d, e, ())) =
  Tree.need (pr_kPath ((), (8 : Int), nums, (0 : Int), ())) (Tree.need ((0 : Int) < IntKind.wrap IntKind.i64 (lenS (V_kPath ((), (8 : Int), nums, (0 : Int), ())).fst + (1 : Int)) ∧ R64 (IntKind.wrap IntKind.i64 (lenS (V_kPath ((), (8 : Int), nums, (0 : Int), ())).fst + (1 : Int)))) (Tree.need ((0 : Int) < IntKind.wrap IntKind.i64 (lenS (V_kPath ((), (8 : Int), nums, (0 : Int), ())).fst + (1 : Int)) ∧ R64 (IntKind.wrap IntKind.i64 (lenS (V_kPath ((), (8 : Int), nums, (0 : Int), ())).fst + (1 : Int)))) (Tree.cond (!(atS (V_kPath ((), (8 : Int), nums, (0 : Int), ())).fst (d % IntKind.wrap IntKind.i64 (lenS (V_kPath ((), (8 : Int), nums, (0 : Int), ())).fst + (1 : Int)))).snd) (Tree.leaf (SV.bool false)) (Tree.cond (!(atS (V_kPath ((), (8 : Int), nums, (0 : Int), ())).fst (e % IntKind.wrap IntKind.i64 (lenS (V_kPath ((), (8 : Int), nums, (0 : Int), ())).fst + (1 : Int)))).snd) (Tree.leaf (SV.bool false)) (Tree.cond (farS (atS (V_kPath ((), (8 : Int), nums, (0 : Int), ())).fst (d % IntKind.wrap IntKind.i64 (lenS (V_kPath ((), (8 : Int), nums, (0 : Int), ())).fst + (1 : Int)))).fst (atS (V_kPath ((), (8 : Int), nums, (0 : Int), ())).fst (e % IntKind.wrap IntKind.i64 (lenS (V_kPath ((), (8 : Int), nums, (0 : Int), ())).fst + (1 : Int)))).fst (IntKind.wrap IntKind.i64 (maxI (IntKind.wrap IntKind.i64 (d % IntKind.wrap IntKind.i64 (lenS (V_kPath ((), (8 : Int), nums, (0 : Int), ())).fst + (1 : Int)) - e % IntKind.wrap IntKind.i64 (lenS (V_kPath ((), (8 : Int), nums, (0 : Int), ())).fst + (1 : Int)))) (IntKind.wrap IntKind.i64 (e % IntKind.wrap IntKind.i64 (lenS (V_kPath ((), (8 : Int), nums, (0 : Int), ())).fst + (1 : Int)) - d % IntKind.wrap IntKind.i64 (lenS (V_kPath ((), (8 : Int), nums, (0 : Int), ())).fst + (1 : Int)))) + (1 : Int)))) (Tree.leaf (SV.bool false)) (Tree.cond ((↑(List.length (jointsS (V_kPath ((), (8 : Int), nums, (0 : Int), ())).fst)) : Int) != IntKind.wrap IntKind.i64 ((↑(List.length (V_kPath ((), (8 : Int), nums, (0 : Int), ())).fst.snd) : Int) + (1 : Int))) (Tree.leaf (SV.bool false)) (Tree.cond ((↑(List.length (vertS (V_kPath ((), (8 : Int), nums, (0 : Int), ())).fst)) : Int) != (↑(List.length (jointsS (V_kPath ((), (8 : Int), nums, (0 : Int), ())).fst)) : Int)) (Tree.leaf (SV.bool false)) (Tree.need ((0 : Int) ≤ IntKind.wrap IntKind.i64 ((↑(List.length (jointsS (V_kPath ((), (8 : Int), nums, (0 : Int), ())).fst)) : Int) - (1 : Int)) ∧ IntKind.wrap IntKind.i64 ((↑(List.length (jointsS (V_kPath ((), (8 : Int), nums, (0 : Int), ())).fst)) : Int) - (1 : Int)) < (↑(List.length (vertS (V_kPath ((), (8 : Int), nums, (0 : Int), ())).fst)) : Int)) (Tree.cond ((List.getD (vertS (V_kPath ((), (8 : Int), nums, (0 : Int), ())).fst) (Int.toNat (IntKind.wrap IntKind.i64 ((↑(List.length (jointsS (V_kPath ((), (8 : Int), nums, (0 : Int), ())).fst)) : Int) - (1 : Int)))) ((0 : Int), (0 : Int))).fst != lenS (V_kPath ((), (8 : Int), nums, (0 : Int), ())).fst) (Tree.leaf (SV.bool false)) (Tree.need (inv_Along ((), jointsS (V_kPath ((), (8 : Int), nums, (0 : Int), ())).fst, (), (0 : Int), (V_kPath ((), (8 : Int), nums, (0 : Int), ())).fst.fst.fst, (V_kPath ((), (8 : Int), nums, (0 : Int), ())).fst.fst.snd.fst, (V_kPath ((), (8 : Int), nums, (0 : Int), ())).fst.fst.snd.snd, (V_kPath ((), (8 : Int), nums, (0 : Int), ())).fst.snd, vertS (V_kPath ((), (8 : Int), nums, (0 : Int), ())).fst, ())) (Tree.leaf (SV.bool true)))))))))))) := by kernel_rfl

def c_PathAlong : PC P := PC.of (α := List Int × Int × Int × Unit) 6 [.val tIs, .val tI, .val tI] (fun x => x) (fun x => x) (fun _ => rfl)
  (fun _ => none)
  (fun x => .bool true) (by kernel_rfl) (by
    rintro ⟨nums, d, e, ⟨⟩⟩ hp
    refine fn_of hm (by kernel_rfl) (by kernel_rfl) (T_PathAlong nums d e) ⟨K_Along, trivial⟩ ?_

    have hpr : pr_kPath ((), (8 : Int), nums, (0 : Int), ()) := ⟨by decide, by decide, by decide, by decide⟩
    have hS := S_kPath _ hpr
    generalize V_kPath ((), (8 : Int), nums, (0 : Int), ()) = b at *
    obtain ⟨⟨⟨x, y, z⟩, l⟩, k'⟩ := b
    obtain ⟨hc, _, _⟩ := hS
    dsimp only at hc ⊢
    have hr := lenS_rng ((x, y, z), l)
    have hlen : l.length ≤ 20 := checkS_len hc
    have hg := checkS_good hc
    rw [W_id (n := lenS ((x, y, z), l) + 1) (by omega) (by omega)]
    have d1 := Int.emod_nonneg d (show lenS ((x, y, z), l) + 1 ≠ 0 by omega)
    have d2 := Int.emod_lt_of_pos d (show 0 < lenS ((x, y, z), l) + 1 by omega)
    have e1 := Int.emod_nonneg e (show lenS ((x, y, z), l) + 1 ≠ 0 by omega)
    have e2 := Int.emod_lt_of_pos e (show 0 < lenS ((x, y, z), l) + 1 by omega)
    generalize d % (lenS ((x, y, z), l) + 1) = d' at *
    generalize e % (lenS ((x, y, z), l) + 1) = e' at *
    rw [at_val hc d1 (by omega), at_val hc e1 (by omega), W_id (n := d' - e') (by omega) (by omega), W_id (n := e' - d') (by omega) (by omega)]
    have hmax : d' - e' ≤ maxI (d' - e') (e' - d') ∧ e' - d' ≤ maxI (d' - e') (e' - d') ∧ maxI (d' - e') (e' - d') ≤ 2621440 := by unfold maxI; split <;> omega
    rw [W_id (n := maxI (d' - e') (e' - d') + 1) (by omega) (by omega)]
    have hfar := far_near (M := maxI (d' - e') (e' - d') + 1) (pos_near hg d1 e1 (maxI (d' - e') (e' - d')) (by omega) (by omega)) (by omega) (by omega)
    have hj : jointsS ((x, y, z), l) = jl (x, y, z) l := if_pos hc
    have hv : vertS ((x, y, z), l) = knots (x, y, z) l := if_pos hc
    have hjl := jl_length l (x, y, z)
    have hkl := knots_length (x, y, z) l
    have hlast : ((knots (x, y, z) l).getD l.length (0, 0)).1 = lenS ((x, y, z), l) := by
      rw [show lenS ((x, y, z), l) = sumL 0 l from if_pos hc]
      exact kl_last (good_legs hg) (by omega) (by omega)
    dsimp only
    rw [hj, hv, hfar, W_id (n := (l.length : Int) + 1) (by omega) (by omega), W_id (n := ((jl (x, y, z) l).length : Int) - 1) (by omega) (by omega), show (((jl (x, y, z) l).length : Int) - 1).toNat = l.length by omega, hlast]
    have hR : R64 (lenS ((x, y, z), l) + 1) := by unfold R64; omega
    exact ⟨hpr, ⟨by omega, hR⟩, ⟨by omega, hR⟩, fun h => by simp at h, fun _ => ⟨fun h => by simp at h, fun _ => ⟨fun h => by simp at h, fun _ => ⟨fun h => by simp at h; omega, fun _ => ⟨fun h => by simp at h; omega, fun _ => ⟨⟨by omega, by omega⟩, fun h => by simp at h, fun _ => ⟨⟨hc, rfl, rfl, by omega, by omega⟩, rfl⟩⟩⟩⟩⟩⟩⟩)

end
end Go.MP
