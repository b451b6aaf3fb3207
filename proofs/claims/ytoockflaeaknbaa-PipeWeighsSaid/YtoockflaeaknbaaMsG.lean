/- Pieces of a string in a path: the program's iterator, and the reference's list. -/
import Derived.Test.YtoockflaeaknbaaMsF
import Derived.Test.YtoockflaeaknbaaMsB
namespace Go.MP
open Go Go.Sx Go.Proofs
set_option linter.unusedVariables false
set_option linter.unusedSimpArgs false
noncomputable section
abbrev tKs : Ty := .sl tK
theorem kl_down : ∀ (l : List V) (a : V) (d z : Int), (∀ v ∈ l, legOk v) → 0 ≤ d → d + 131072 * l.length ≤ 1099511627776 →
    (∀ i j : Nat, i < j → j ≤ l.length → (((d, z) :: kl a d l).getD i (0, 0)).1 < (((d, z) :: kl a d l).getD j (0, 0)).1) ∧ (((d, z) :: kl a d l).getD l.length (0, 0)).1 = sumL d l
  | [], a, d, z, _, _, _ => by
    refine ⟨fun i j h1 h2 => ?_, rfl⟩
    have hj : j = 0 := by simpa using h2
    omega
  | v :: r, a, d, z, hl, h0, h1 => by
    have hv := hl v (by simp)
    obtain ⟨_, w1, w2⟩ := hv
    rw [List.length_cons] at h1
    have hw : IntKind.wrap IntKind.i64 (d + (wholeS v).1) = d + (wholeS v).1 := W_id (by omega) (by omega)
    obtain ⟨ih1, ih2⟩ := kl_down r (vadd a v) (d + (wholeS v).1) (IntKind.wrap IntKind.i64 (a.2.2 + v.2.2)) (fun u hu => hl u (by simp [hu])) (by omega) (by omega)
    have e : kl a d (v :: r) = (d + (wholeS v).1, IntKind.wrap IntKind.i64 (a.2.2 + v.2.2)) :: kl (vadd a v) (d + (wholeS v).1) r := by rw [kl, hw]
    rw [e]
    refine ⟨fun i j hij hj => ?_, ?_⟩
    · rw [List.length_cons] at hj
      cases j with
      | zero => omega
      | succ j =>
        rw [List.getD_cons_succ]
        cases i with
        | zero =>
          rw [List.getD_cons_zero]
          cases j with
          | zero =>
            rw [List.getD_cons_zero]
            dsimp only
            omega
          | succ j =>
            have := ih1 0 (j + 1) (by omega) (by omega)
            rw [List.getD_cons_zero] at this
            dsimp only at this ⊢
            omega
        | succ i =>
          rw [List.getD_cons_succ]
          exact ih1 i j (by omega) (by omega)
    · rw [List.length_cons, List.getD_cons_succ, ih2]
      show sumL (d + (wholeS v).1) r = sumL d (v :: r)
      unfold sumL
      rw [List.foldl_cons, hw]
theorem down_of {p : Pth} (h : checkS p = 0) (h2 : p.2 ≠ []) : Down (knots p.1 p.2) (lenS p) := by
  have hlen := checkS_len h
  have hk := knots_length p.1 p.2
  have hpos : 0 < p.2.length := List.length_pos_iff.2 h2
  obtain ⟨k1, k2⟩ := kl_down p.2 p.1 0 p.1.2.2 (checkS_legs h) (by decide) (by omega)
  refine ⟨by omega, rfl, ?_, fun i j h0 h1 h2 => ?_⟩
  · unfold lenS
    rw [if_pos h]
    unfold knotA
    rw [show ((knots p.1 p.2).length : Int) - 1 = ((p.2.length : Nat) : Int) by omega, Int.toNat_natCast]
    exact Int.le_of_eq k2.symm
  · exact k1 i.toNat j.toNat (by omega) (by omega)
theorem sumT_pos {l : List Tb} (h : checkT l = 0) : 100 ≤ sumT l := by
  obtain ⟨h1, h2, h3, h4⟩ := checkT_ok h
  cases l with
  | nil => exact absurd rfl h1
  | cons t r =>
    have a := (h3 t (by simp)).prod
    have b := sumT_rng r fun u hu => h3 u (by simp [hu])
    rw [sumT]; omega
theorem fits_legs {l : List Tb} {p : Pth} (h : fitsS l p = 0) : p.2 ≠ [] := by
  obtain ⟨h1, h2, h3⟩ := fitsS_ok h
  intro e
  have := sumT_pos h1
  unfold lenS at h3
  rw [if_pos h2, e] at h3
  have : sumL 0 [] = 0 := rfl
  omega
theorem fits_down {l : List Tb} {p : Pth} (h : fitsS l p = 0) : Down (knots p.1 p.2) (lenS p) := down_of (fitsS_ok h).2.1 (fits_legs h)
theorem sumL_le : ∀ (l : List V) (d : Int), (∀ v ∈ l, legOk v) → 0 ≤ d → d + 131072 * l.length ≤ 1048576000 → sumL d l ≤ d + 131072 * l.length
  | [], d, _, _, _ => by show d ≤ d + 131072 * ((0 : Nat) : Int); omega
  | v :: r, d, hl, h0, h1 => by
    obtain ⟨_, w1, w2⟩ := hl v (by simp)
    rw [List.length_cons] at h1 ⊢
    have hw : IntKind.wrap IntKind.i64 (d + (wholeS v).1) = d + (wholeS v).1 := W_id (by omega) (by omega)
    have := sumL_le r (d + (wholeS v).1) (fun u hu => hl u (by simp [hu])) (by omega) (by omega)
    have e : sumL d (v :: r) = sumL (d + (wholeS v).1) r := by unfold sumL; rw [List.foldl_cons, hw]
    rw [e]; omega
theorem lenS_le (p : Pth) : lenS p ≤ 1048576000 := by
  unfold lenS
  split
  · rename_i h
    have := checkS_len h
    have := sumL_le p.2 0 (checkS_legs h) (by decide) (by omega)
    omega
  · decide
theorem vertS_fits {l : List Tb} {p : Pth} (h : fitsS l p = 0) : vertS p = knots p.1 p.2 := by
  unfold vertS; rw [if_pos (fitsS_ok h).2.1]
def endLeg (g : Int) (l : List Pc) : Int := l.foldl (fun _ q => q.2.1) g
theorem endLeg_cons (g : Int) (q : Pc) (l : List Pc) : endLeg g (q :: l) = endLeg q.2.1 l := rfl
theorem endLeg_nil (g : Int) : endLeg g [] = g := rfl
def LegAt (ks : List K2) (to g : Int) : Prop := 0 ≤ g ∧ g + 1 < ks.length ∧ (0 < to → legOf ks to ≤ g)
theorem legAt_end {ks : List K2} {L : Int} (hd : Down ks L) (i : Int) {top : Int} (h0 : 0 ≤ top) : ∀ (n : Nat) (to g : Int), (to - top).toNat ≤ n → top ≤ to → to ≤ L → LegAt ks to g →
    LegAt ks top (endLeg g (tubeS ks i top to)) := by
  intro n
  induction n with
  | zero =>
    intro to g hn ht hL hg
    have e : to = top := by omega
    subst e
    rw [tubeS_nil _ _ _ (Int.le_refl _), endLeg_nil]
    exact hg
  | succ n ih =>
    intro to g hn ht hL hg
    by_cases h : to ≤ top
    · have e : to = top := by omega
      subst e
      rw [tubeS_nil _ _ _ (Int.le_refl _), endLeg_nil]
      exact hg
    · obtain ⟨l1, l2, l3, l4⟩ := legOf_ok hd (show 0 < to by omega) hL
      rw [tubeS_step hd i h0 (by omega) hL, endLeg_cons]
      have hm : top ≤ maxI top (knotA ks (legOf ks to)) ∧ maxI top (knotA ks (legOf ks to)) < to := by rw [maxI_eq]; omega
      exact ih _ _ (by omega) hm.1 (by omega) ⟨l1, l2, fun hp => legOf_mono hd hp (by omega) hL⟩
theorem pcsL_step {ks : List K2} {i to : Int} {l : List Tb} (h0 : 0 ≤ i) (h : i < l.length) :
    pcsL ks i to (l.drop i.toNat) = tubeS ks i (to - (l.getD i.toNat zT).1 * (l.getD i.toNat zT).2.1) to ++ pcsL ks (i + 1) (to - (l.getD i.toNat zT).1 * (l.getD i.toNat zT).2.1) (l.drop (i + 1).toNat) := by
  rw [drop_step zT h0 h]; rfl
theorem pcsL_nil (ks : List K2) (i to : Int) : pcsL ks i to [] = [] := rfl
theorem T_Fits (l_0 : List Tb) (p_0 p_1 p_2 : Int) (p_3 : List V) : fnTree (P := P) [c_TCheck.gc, c_Check.gc, c_plength.gc, c_Length.gc] (lpOf []) Try.f27 (encL 0 [.agg tTs, .agg (.pair tV tVs)] (l_0, ((p_0, (p_1, p_2)), p_3), ())) =
  Tree.need ((↑(List.length l_0) : Int) < (2 : Int) ^ (62 : Nat)) (Tree.cond (checkT l_0 != (0 : Int)) (Tree.leaf (SV.int IntKind.i64 (checkT l_0))) (Tree.cond (checkS ((p_0, p_1, p_2), p_3) != (0 : Int)) (Tree.leaf (SV.int IntKind.i64 (checkS ((p_0, p_1, p_2), p_3)))) (Tree.need (List.length l_0 ≤ (8 : Nat) ∧ AllF l_0) (Tree.cond (decide (sumT l_0 > lenS ((p_0, p_1, p_2), p_3))) (Tree.leaf (SV.int IntKind.i64 (5 : Int))) (Tree.leaf (SV.int IntKind.i64 (0 : Int))))))) := by kernel_rfl
def c_Fits : PC P := PC.of (α := List Tb × (V × List V) × Unit) 27 [.agg tTs, .agg (.pair tV tVs)] (fun x => x) (fun x => x) (fun _ => rfl)
  (fun x => some ((x.1.length : Int) < 2 ^ 62))
  (fun x => .int .i64 (fitsS x.1 x.2.1)) (by kernel_rfl) (by
    rintro ⟨l_0, ⟨⟨p_0, ⟨p_1, p_2⟩⟩, p_3⟩, ⟨⟩⟩ hp
    refine fn_of hm (by kernel_rfl) (by kernel_rfl) (T_Fits l_0 p_0 p_1 p_2 p_3) trivial ?_
    try dsimp only at hp
    try dsimp only
    show Tree.holds (fun s => s = SV.int .i64 (fitsS l_0 ((p_0, p_1, p_2), p_3))) _
    have h62 : (l_0.length : Int) < 2 ^ 62 := hp
    unfold fitsS
    refine ⟨h62, fun c1 => ?_, fun c1 => ⟨fun c2 => ?_, fun c2 => ⟨?_, fun c3 => ?_, fun c3 => ?_⟩⟩⟩
    all_goals simp only [bne_iff_ne, bne_eq_false_iff_eq, ne_eq, decide_eq_true_eq, decide_eq_false_iff_not] at *
    · rw [if_pos c1]; exact rfl
    · rw [if_neg (by simp [c1]), if_pos c2]; exact rfl
    · obtain ⟨_, h2, h3, h4⟩ := checkT_ok c1
      exact ⟨h2, h3⟩
    · rw [if_neg (by simp [c1]), if_neg (by simp [c2]), if_pos c3]; exact rfl
    · rw [if_neg (by simp [c1]), if_neg (by simp [c2]), if_neg c3]; exact rfl)
def L_pieces : Lay := { slots := [(0, .agg tTs), (1, .agg tPath)] }
theorem T_pieces (s : List Tb) (x y z : Int) (l : List V) : mTree (P := P) [] (lpOf []) Try.f82 L_pieces true (s, ((x, y, z), l), ()) =
  Tree.leaf { res := SV.fn (112 : Nat) [SV.ptr (nat_lit 100) (0 : Nat), SV.ptr (nat_lit 101) (0 : Nat)], boxes := [], news := [Ob.box [SV.int IntKind.i64 x, SV.int IntKind.i64 y, SV.int IntKind.i64 z, SV.sl tV l], Ob.box [SV.sl tT s]] } := by kernel_rfl
def c_pieces : MC P := MC.of (α := List Tb × Pth × Unit) 82 L_pieces (fun x => x) (fun x => x) (fun _ => rfl)
  (fun _ => none)
  (fun (s, (v, l), _) => ⟨.fn 112 [.ptr 100 0, .ptr 101 0], [], [.box [.int .i64 v.1, .int .i64 v.2.1, .int .i64 v.2.2, .sl tV l], .box [.sl tT s]]⟩) (by kernel_rfl) (by kernel_rfl) (by kernel_rfl) (by
    rintro ⟨s, ⟨⟨x, y, z⟩, l⟩, ⟨⟩⟩ hp
    refine m_of hm (own := true) (by kernel_rfl) (by kernel_rfl) (by kernel_rfl) (T_pieces s x y z l) trivial ?_
    exact rfl)
end
end Go.MP
