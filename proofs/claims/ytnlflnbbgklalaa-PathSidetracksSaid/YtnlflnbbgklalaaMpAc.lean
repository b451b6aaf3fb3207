/- The law PathPlans: the program's search and the reference's find the same path. -/
import Derived.Test.YtnlflnbbgklalaaMpAb
import Derived.Test.YtnlflnbbgklalaaMpF
import Derived.Test.YtnlflnbbgklalaaMpL
namespace Go.MP
open Go Go.Sx Go.Proofs
set_option linter.unusedVariables false
set_option linter.unusedSimpArgs false
noncomputable section

/-! ### Directions and turns -/
theorem bends_eq {v w : V} {t : Int × Int} (hv : (legS v).2 = true) (hw : (legS w).2 = true) (t0 : 0 ≤ t.1) (t1 : t.1 ≤ t.2) (t2 : 1 ≤ t.2) (t3 : t.2 ≤ 1000) : bendsS v w t = (decide (vdot v w > 0) && !rbendsS v w t) := by
  obtain ⟨e, b1, b2, b3, b4⟩ := turn_pre hv hw
  obtain ⟨l1, l2, l3⟩ := legS_true hv
  obtain ⟨m1, m2, m3⟩ := legS_true hw
  obtain ⟨g1, g2⟩ := gcdI_spec b3 b1
  have hg := gcdI_pos (a := (wholeS v).1 * (wholeS w).1 - dotZ v w) b1
  have hT : (TurnS v w).1 = lowS ((wholeS v).1 * (wholeS w).1 - dotZ v w) ((wholeS v).1 * (wholeS w).1) := by
    unfold TurnS; rw [if_pos ⟨hv, hw⟩]; rfl
  have p1 := mulB (a := t.2) (b := (wholeS v).1 * (wholeS w).1 - dotZ v w) (A := 1000) (B := 34359738368) (by omega) (by omega)
  have p2 := mulB (a := t.1) (b := (wholeS v).1) (A := 1000) (B := 131072) (by omega) (by omega)
  have p3 := mulB (a := t.1 * (wholeS v).1) (b := (wholeS w).1) (A := 131072000) (B := 131072) (by omega) (by omega)
  unfold bendsS rbendsS fgt
  rw [hT, e, W_id (n := (wholeS v).1 * (wholeS w).1) (by omega) (by omega), W_id (n := (wholeS v).1 * (wholeS w).1 - dotZ v w) (by omega) (by omega), W_id (n := t.2 * ((wholeS v).1 * (wholeS w).1 - dotZ v w)) (by omega) (by omega), W_id (n := t.1 * (wholeS v).1) (by omega) (by omega), W_id (n := t.1 * (wholeS v).1 * (wholeS w).1) (by omega) (by omega)]
  congr 1
  rw [Int.mul_assoc t.1]
  generalize (wholeS v).1 * (wholeS w).1 - dotZ v w = A at *
  generalize (wholeS v).1 * (wholeS w).1 = B at *
  generalize gcdI A B = g at *
  generalize hN : (lowS A B).1 = N at *
  generalize hD : (lowS A B).2 = D at *
  rw [← decide_not]
  refine decide_eq_decide.2 ?_
  rw [Int.not_lt]
  have key : t.2 * A ≤ t.1 * B ↔ g * (N * t.2) ≤ g * (t.1 * D) := by
    have e1 : t.2 * A = g * (N * t.2) := by rw [← g1]; grind
    have e2 : t.1 * B = g * (t.1 * D) := by rw [← g2]; grind
    rw [e1, e2]
  rw [key]
  exact ⟨fun h => Int.le_of_mul_le_mul_left h hg, fun h => Int.mul_le_mul_of_nonneg_left h (by omega)⟩

theorem whole_mul8 {v : V} {k : Int} (h : (wholeS v).2 = true) (h4 : (wholeS v).1 ≤ 4000) (hk : 1 ≤ k) (hk2 : k ≤ 8) : wholeS (vmul v k) = (k * (wholeS v).1, true) ∧ vmul v k = (v.1 * k, v.2.1 * k, v.2.2 * k) := by
  obtain ⟨h1, h2, h3, hi, _⟩ := wholeS_true h
  have hi := inB_mono hi h4
  have ev := vmul_eq hi (k := k) (K := 8) (by omega) (by decide)
  refine ⟨?_, ev⟩
  rw [ev]
  rw [inB_iff] at hi
  have m1 := mulB hi.1 (b := k) (B := 8) (by omega)
  have m2 := mulB hi.2.1 (b := k) (B := 8) (by omega)
  have m3 := mulB hi.2.2 (b := k) (B := 8) (by omega)
  have hin : inB (v.1 * k, v.2.1 * k, v.2.2 * k) 16777216 = true := by
    rw [inB_iff]
    exact ⟨⟨by dsimp only; omega, by dsimp only; omega⟩, ⟨by dsimp only; omega, by dsimp only; omega⟩, ⟨by dsimp only; omega, by dsimp only; omega⟩⟩
  have hm := mulB (a := k) (b := (wholeS v).1) (A := 8) (B := 4000) (by omega) (by omega)
  unfold wholeS at *
  rw [if_pos h1] at *
  rw [if_pos hin]
  have hpos : 0 ≤ k * (rootS (dotZ v v)).1 := Int.mul_nonneg (by omega) h2
  have e : k * (rootS (dotZ v v)).1 * (k * (rootS (dotZ v v)).1) = dotZ (v.1 * k, v.2.1 * k, v.2.2 * k) (v.1 * k, v.2.1 * k, v.2.2 * k) := by
    have e1 : dotZ (v.1 * k, v.2.1 * k, v.2.2 * k) (v.1 * k, v.2.1 * k, v.2.2 * k) = k * k * dotZ v v := by
      unfold dotZ
      dsimp only
      grind
    rw [e1, ← h3]
    grind
  refine rootS_eq hpos e ?_
  rw [← e]
  have := sq_mono hpos hm.2
  omega
theorem dir_leg {D : V} (h : goalDir D) : (legS D).2 = true := legOk_leg ⟨h.1, h.2.1, by have := h.2.2; omega⟩
theorem dir_times {D : V} (h : goalDir D) {k : Int} (hk : 1 ≤ k) (hk2 : k ≤ 8) : legOk (vmul D k) ∧ (wholeS (vmul D k)).1 = IntKind.wrap IntKind.i64 ((wholeS D).1 * k) := by
  obtain ⟨e, _⟩ := whole_mul8 h.1 h.2.2 hk hk2
  have hm := mulB (a := k) (b := (wholeS D).1) (A := 8) (B := 4000) (by omega) (by have := h.2; omega)
  have h1 : (wholeS D).1 ≤ k * (wholeS D).1 := by
    have := Int.mul_le_mul_of_nonneg_right hk (show 0 ≤ (wholeS D).1 by have := h.2.1; omega)
    omega
  have := h.2
  refine ⟨⟨by rw [e], by rw [e]; show 100 ≤ k * (wholeS D).1; omega, by rw [e]; show k * (wholeS D).1 ≤ 131072; omega⟩, ?_⟩
  rw [e, Int.mul_comm (wholeS D).1, W_id (by omega) (by omega)]
theorem dir_dot {u D : V} (hu : (legS u).2 = true) (h : goalDir D) {k : Int} (hk : 1 ≤ k) (hk2 : k ≤ 8) (hd : vdot u D > 0) : vdot u (vmul D k) > 0 := by
  obtain ⟨e, ev⟩ := whole_mul8 h.1 h.2.2 hk hk2
  have i1 := (wholeS_true (legS_true hu).1).1
  have i2 := (wholeS_true h.1).1
  have i3 := (wholeS_true (show (wholeS (vmul D k)).2 = true by rw [e])).1
  rw [vdot_eq i1 i2] at hd
  rw [vdot_eq i1 i3, ev]
  have : dotZ u (D.1 * k, D.2.1 * k, D.2.2 * k) = k * dotZ u D := by unfold dotZ; dsimp only; grind
  rw [this]
  exact Int.mul_pos (by omega) hd

/-! ### One leg more -/
def lastP : Option V → List V → Option V
  | p, [] => p
  | _, u :: r => lastP (some u) r
theorem check_snoc {v : V} (hv : legOk v) : ∀ (l : List V) (a : V) (p : Option V), checkL a p l = 0 → clashS (lastP p l) v = false → (checkL a p (l ++ [v]) = 0 ↔ validS (vadd (l.foldl vadd a) v) = true)
  | [], a, p, _, hc => by
    obtain ⟨h1, h2, h3⟩ := hv
    rw [List.nil_append, checkL_cons, if_neg (by simp [h1]), if_neg (by omega), if_neg (by rw [show clashS p v = false from hc]; decide)]
    show _ ↔ validS (vadd a v) = true
    cases hb : validS (vadd a v) <;> simp [checkL]
  | u :: r, a, p, h, hc => by
    obtain ⟨k1, k2, k3, k4⟩ := checkL_zero h
    have ih := check_snoc hv r (vadd a u) (some u) k4 hc
    obtain ⟨h1, h2, h3⟩ := k1
    have hcl : clashS p u = false := by
      cases p with
      | none => rfl
      | some q =>
        have := k2 q rfl
        show decide (vdot q u ≤ 0) = false
        rw [decide_eq_false]; omega
    rw [List.cons_append, checkL_cons, if_neg (by simp [h1]), if_neg (by omega), if_neg (by rw [hcl]; decide), if_neg (by simp [k3])]
    exact ih
theorem lastP_getD : ∀ (r : List V) (u : V) (p : Option V), lastP p (u :: r) = some ((u :: r).getD r.length (0, 0, 0))
  | [], u, p => rfl
  | v :: r, u, p => by
    show lastP (some u) (v :: r) = _
    rw [lastP_getD r v (some u)]
    rfl
theorem lastS_snoc (first : V) (l : List V) (v : V) : lastS first (l ++ [v]).length (l ++ [v]) = v := by
  unfold lastS
  rw [List.length_append, List.length_singleton, if_neg (by omega), Nat.add_sub_cancel]
  simp [List.getD]
theorem endS_fold : ∀ (l : List V) (a : V), endS a l = l.foldl vadd a
  | [], a => rfl
  | v :: r, a => by
    have := endS_fold r (vadd a v)
    unfold endS at *
    simpa [jl] using this
theorem endS_snoc (a : V) (l : List V) (v : V) : endS a (l ++ [v]) = vadd (endS a l) v := by
  rw [endS_fold, endS_fold, List.foldl_append]; rfl
theorem sumL_snoc (l : List V) (v : V) : sumL 0 (l ++ [v]) = IntKind.wrap IntKind.i64 (sumL 0 l + (wholeS v).1) := by
  unfold sumL; rw [List.foldl_append]; rfl

/-! ### The two searches -/
/-- The program's best path is the reference's. -/
def Rel (x : V) (b : Best) (f : Fnd) : Prop := (b.2 < 0 ∧ f.2 = false) ∨ (0 ≤ b.2 ∧ f = ((x, b.1), true) ∧ lenS (x, b.1) = b.2)
structure Inv (x first : V) (now : List V) (at' before : V) (dir len : Int) (s : SS) : Prop where
  legs : s.1 = now
  dirs : s.2.1.length = now.length
  ok : checkS (x, now) = 0
  at_ : at' = endS x now
  last : before = lastS first now.length now
  len_ : len = sumL 0 now
  dir_ : dir = if now.length = 0 then -1 else s.2.1.getD (now.length - 1) 0
/-- What the law knows of a goal. -/
structure OkG (g : Goal) : Prop where
  dirs : ∀ D ∈ g.1, goalDir D
  m1 : 1 ≤ g.2.1
  m8 : g.2.1 ≤ 8
  t0 : 0 ≤ g.2.2.2.1.1
  t1 : g.2.2.2.1.1 ≤ g.2.2.2.1.2
  t2 : 1 ≤ g.2.2.2.1.2
  t3 : g.2.2.2.1.2 ≤ 1000
theorem here_rel {g : Goal} {x first : V} {now : List V} {at' before : V} {dir len : Int} {s : SS} {b : Best} (hi : Inv x first now at' before dir len s) (hr : Rel x b s.2.2) (hlen : 0 ≤ len) :
    Rel x (hereS g now at' len b) (hereG g x s).2.2 := by
  have hl : lenS (x, now) = len := by unfold lenS; rw [if_pos hi.ok]; exact hi.len_.symm
  unfold hereS hereG
  dsimp only
  rw [hi.legs, ← hi.at_]
  have hne : now ≠ [] ↔ 0 < now.length := by rw [← List.length_pos_iff]
  have hb : (b.2 < 0 ∨ len < b.2 ∨ (len = b.2 ∧ now.length < b.1.length)) ↔ betterS (x, now) s.2.2 = true := by
    unfold betterS
    rcases hr with ⟨h1, h2⟩ | ⟨h1, h2, h3⟩
    · rw [h2]; simp [h1]
    · rw [h2, hl, h3]
      simp only [Bool.not_true, Bool.false_or, Bool.or_eq_true, Bool.and_eq_true, decide_eq_true_eq]
      omega
  by_cases hc : now ≠ [] ∧ withinS at' g.2.2.2.2 = true ∧ (b.2 < 0 ∨ len < b.2 ∨ (len = b.2 ∧ now.length < b.1.length))
  · rw [if_pos hc, if_pos ⟨hne.1 hc.1, hc.2.1, hb.1 hc.2.2⟩]
    exact .inr ⟨hlen, rfl, hl⟩
  · rw [if_neg hc, if_neg fun h => hc ⟨hne.2 h.1, h.2.1, hb.2 h.2.2⟩]
    exact hr
theorem sum_ok {x : V} {l : List V} (h : checkS (x, l) = 0) : 0 ≤ sumL 0 l ∧ sumL 0 l ≤ 131072 * 20 := by
  have hg := checkS_legs h
  have h20 : l.length ≤ 20 := checkS_len h
  have := sumL_rng (l := l) (s := 0) hg (by omega) (by omega)
  omega
theorem k_rel {g : Goal} (hg : OkG g) {x first : V} {n : Nat} {now : List V} {dirs : List Int} {at' D : V} {i len : Int} {rec : List V → V → V → Int → Int → Best → Best} {rec' : SS → SS} (hn : now.length = n) (hd : dirs.length = n) (hn3 : n < 3)
    (hok : checkS (x, now) = 0) (hat : at' = endS x now) (hlen : len = sumL 0 now) (hD : goalDir D) (hlast : n = 0 ∨ ((legS (lastS first n now)).2 = true ∧ vdot (lastS first n now) D > 0))
    (hrec : ∀ (v : V) (len' : Int) (b : Best) (s : SS), Inv x first (now ++ [v]) (endS x (now ++ [v])) v i len' s → Rel x b s.2.2 → Rel x (rec (now ++ [v]) (endS x (now ++ [v])) v i len' b) (rec' s).2.2)
    (hfix : ∀ s : SS, s.2.1.length = s.1.length → (rec' s).1 = s.1 ∧ (rec' s).2.1 = s.2.1) :
    ∀ (j : Nat) (k : Int) (b : Best) (s : SS), 1 ≤ k → k + j ≤ 9 → s.1.take n = now → s.2.1.take n = dirs → Rel x b s.2.2 → Rel x (kR rec now at' D i len (wholeS D).1 j k b) (kG rec' x n D i j k s).2.2
  | 0, k, b, s, _, _, _, _, hr => hr
  | j + 1, k, b, s, hk, hk9, h1, h2, hr => by
    obtain ⟨hv, hw⟩ := dir_times hD hk (by omega)
    have hcl : clashS (lastP none now) (vmul D k) = false := by
      cases now with
      | nil => rfl
      | cons u r =>
        rcases hlast with h | ⟨h3, h4⟩
        · rw [← hn] at h; simp at h
        · rw [lastP_getD]
          show decide (vdot _ _ ≤ 0) = false
          have e : lastS first n (u :: r) = (u :: r).getD r.length (0, 0, 0) := by
            unfold lastS
            rw [if_neg (by rw [← hn]; simp), ← hn]
            rfl
          rw [e] at h3 h4
          have := dir_dot h3 hD hk (by omega) h4
          exact decide_eq_false (by omega)
    have hx : validS x = true := by
      unfold checkS at hok
      split at hok
      · cases hok
      · split at hok
        · cases hok
        · rename_i h; simpa using h
    have hcL : checkL x none now = 0 := by
      unfold checkS at hok
      rw [if_neg (by show ¬ now.length > 20; omega), if_neg (by simp [hx])] at hok
      exact hok
    have hcheck : checkS (x, now ++ [vmul D k]) = 0 ↔ validS (vadd at' (vmul D k)) = true := by
      unfold checkS
      rw [if_neg (by show ¬ (now ++ [vmul D k]).length > 20; rw [List.length_append, List.length_singleton]; omega), if_neg (by simp [hx]), hat, endS_fold]
      exact check_snoc hv now x none hcL hcl
    have t1 : (now ++ [vmul D k]).take n = now := by rw [← hn, List.take_left']; rfl
    have t2 : (dirs ++ [i]).take n = dirs := by rw [← hd, List.take_left']; rfl
    rw [kR, kG, h1, h2]
    by_cases hval : validS (vadd at' (vmul D k)) = true
    · rw [if_pos hval, if_pos (hcheck.2 hval)]
      have hf := hfix (now ++ [vmul D k], dirs ++ [i], s.2.2) (by simp [hn, hd])
      have he : endS x (now ++ [vmul D k]) = vadd at' (vmul D k) := by rw [endS_snoc, hat]
      refine k_rel hg hn hd hn3 hok hat hlen hD hlast hrec hfix j (k + 1) _ _ (by omega) (by omega) (by rw [hf.1]; exact t1) (by rw [hf.2]; exact t2) ?_
      rw [← he]
      refine hrec (vmul D k) _ b (now ++ [vmul D k], dirs ++ [i], s.2.2) ⟨rfl, by simp [hn, hd], hcheck.2 hval, rfl, (lastS_snoc first now (vmul D k)).symm, ?_, ?_⟩ hr
      · rw [sumL_snoc, hw, hlen]
      · rw [if_neg (by simp)]
        show i = (dirs ++ [i]).getD ((now ++ [vmul D k]).length - 1) 0
        rw [List.length_append, List.length_singleton, Nat.add_sub_cancel, hn, ← hd]
        simp [List.getD]
    · rw [if_neg hval, if_neg fun h => hval (hcheck.1 h)]
      exact k_rel hg hn hd hn3 hok hat hlen hD hlast hrec hfix j (k + 1) _ _ (by omega) (by omega) t1 t2 hr

theorem d_rel {g : Goal} (hg : OkG g) {x first : V} (hfi : (legS first).2 = true) {n : Nat} {now : List V} {dirs : List Int} {at' before : V} {dir len : Int} {rec : List V → V → V → Int → Int → Best → Best} {rec' : SS → SS} (hn : now.length = n) (hd : dirs.length = n) (hn3 : n < 3)
    (hok : checkS (x, now) = 0) (hat : at' = endS x now) (hlen : len = sumL 0 now) (hbef : before = lastS first n now) (hdir : dir = if n = 0 then -1 else dirs.getD (n - 1) 0)
    (hrec : ∀ (i : Int) (v : V) (len' : Int) (b : Best) (s : SS), Inv x first (now ++ [v]) (endS x (now ++ [v])) v i len' s → Rel x b s.2.2 → Rel x (rec (now ++ [v]) (endS x (now ++ [v])) v i len' b) (rec' s).2.2)
    (hfix : ∀ s : SS, s.2.1.length = s.1.length → (rec' s).1 = s.1 ∧ (rec' s).2.1 = s.2.1) :
    ∀ (l : List V) (i : Int) (b : Best) (s : SS), 0 ≤ i → (∀ D ∈ l, goalDir D) → s.1.take n = now → s.2.1.take n = dirs → Rel x b s.2.2 → Rel x (dR rec g now at' before dir len l i b) (dG rec' g x first n l i s).2.2
  | [], i, b, s, _, _, _, _, hr => hr
  | D :: r, i, b, s, hi, hl, h1, h2, hr => by
    have hD := hl D (by simp)
    have hlastS : lastS first n s.1 = before := by
      rw [hbef]
      unfold lastS
      split
      · rfl
      · rw [← h1, getD_take (0, 0, 0) (by omega)]
    have hleg : (legS before).2 = true := by
      rw [hbef]
      unfold lastS
      split
      · exact hfi
      · exact legOk_leg (checkS_legs hok _ (getD_mem (d := (0, 0, 0)) (show n - 1 < now.length by omega)))
    have hb := bends_eq hleg (dir_leg hD) hg.t0 hg.t1 hg.t2 hg.t3
    have hskip : skipS g first n D i s ↔ (i = dir ∨ bendsS before D g.2.2.2.1 = false) := by
      unfold skipS
      rw [hlastS, hb, hdir]
      have e : 0 < n → s.2.1.getD (n - 1) 0 = dirs.getD (n - 1) 0 := fun h => by rw [← h2, getD_take 0 (by omega)]
      cases hrb : rbendsS before D g.2.2.2.1 with
      | true => simp
      | false =>
        simp only [Bool.not_false, Bool.and_true, decide_eq_false_iff_not, Bool.false_eq_true, or_false]
        by_cases h0 : n = 0
        · rw [if_pos h0]
          constructor
          · rintro (h | h)
            · omega
            · exact .inr (by omega)
          · rintro (h | h)
            · omega
            · exact .inr (by omega)
        · rw [if_neg h0, ← e (by omega)]
          constructor
          · rintro (h | h)
            · exact .inl h.2.symm
            · exact .inr (by omega)
          · rintro (h | h)
            · exact .inl ⟨by omega, h.symm⟩
            · exact .inr (by omega)
    rw [dR, dG]
    by_cases hs : skipS g first n D i s
    · rw [if_pos hs, if_pos (hskip.1 hs)]
      exact d_rel hg hfi hn hd hn3 hok hat hlen hbef hdir hrec hfix r (i + 1) b s (by omega) (fun D h => hl D (by simp [h])) h1 h2 hr
    · rw [if_neg hs, if_neg fun h => hs (hskip.2 h)]
      have hdot : vdot before D > 0 := by
        have : ¬ vdot (lastS first n s.1) D ≤ 0 := fun h => hs (.inr (.inl h))
        rw [hlastS] at this
        omega
      obtain ⟨k1, k2⟩ := kG_fix (x := x) (D := D) (i := i) hfix hn hd g.2.1.toNat 1 s h1 h2
      refine d_rel hg hfi hn hd hn3 hok hat hlen hbef hdir hrec hfix r (i + 1) _ _ (by omega) (fun D h => hl D (by simp [h])) k1 k2 ?_
      have m1 := hg.m1
      have m8 := hg.m8
      exact k_rel hg hn hd hn3 hok hat hlen hD (.inr (by rw [← hbef]; exact ⟨hleg, hdot⟩)) (hrec i) hfix g.2.1.toNat 1 b s (by omega) (by omega) h1 h2 hr
theorem go_rel {g : Goal} (hg : OkG g) {x first : V} (hfi : (legS first).2 = true) : ∀ (j : Nat) (now : List V) (at' before : V) (dir len : Int) (b : Best) (s : SS), j + now.length ≤ 3 → Inv x first now at' before dir len s → Rel x b s.2.2 →
    Rel x (walkR g j now at' before dir len b) (goR g x first j s).2.2
  | 0, now, at', before, dir, len, b, s, _, hi, hr => here_rel hi hr (by rw [hi.len_]; exact (sum_ok hi.ok).1)
  | j + 1, now, at', before, dir, len, b, s, hj, hi, hr => by
    have hh := here_rel (g := g) hi hr (by rw [hi.len_]; exact (sum_ok hi.ok).1)
    show Rel x (dR (walkR g j) g now at' before dir len g.1 0 (hereS g now at' len b)) (dG (goR g x first j) g x first s.1.length g.1 0 (hereG g x s)).2.2
    have hl : s.1.length = now.length := by rw [hi.legs]
    rw [hl]
    refine d_rel (n := now.length) (now := now) (dirs := s.2.1) hg hfi rfl hi.dirs (by omega) hi.ok hi.at_ hi.len_ hi.last hi.dir_ (fun i v len' b s hi hr => go_rel hg hfi j _ _ _ _ _ b s (by rw [List.length_append, List.length_singleton]; omega) hi hr) (go_fix j) g.1 0 _ _ (by decide) hg.dirs ?_ ?_ hh
    · show s.1.take now.length = now
      rw [hi.legs, List.take_length]
    · show s.2.1.take now.length = s.2.1
      rw [← hi.dirs, List.take_length]
/-- What the search finds, from the start. -/
theorem plan_rel {g : Goal} (hg : OkG g) {x first : V} (hx : validS x = true) (hfi : (legS first).2 = true) {j : Nat} (hj : j ≤ 3) (bf : Pth) :
    Rel x (walkR g j [] x first (-1) 0 ([], -1)) (goR g x first j ([], [], (bf, false))).2.2 := by
  refine go_rel hg hfi j [] x first (-1) 0 ([], -1) _ (by simpa using hj) ⟨rfl, rfl, ?_, rfl, rfl, rfl, rfl⟩ (.inl ⟨by decide, rfl⟩)
  unfold checkS
  rw [if_neg (by simp), if_neg (by simp [hx])]
  rfl
theorem dirsR_ok : ∀ {l r : List V} {i : Int}, dirsR l i r = 0 → ∀ D ∈ r, goalDir D
  | l, [], i, _, D, h => by cases h
  | l, d :: r, i, h, D, hD => by
    rw [dirsR] at h
    split at h
    · cases h
    · rename_i h1
      split at h
      · cases h
      · rename_i h2
        split at h
        · cases h
        · rcases List.mem_cons.1 hD with rfl | hD
          · exact ⟨by simpa using h1, by omega, by omega⟩
          · exact dirsR_ok h D hD
theorem goal_okG {g : Goal} (h : goalS g = 0) : OkG g := by
  obtain ⟨h1, h2, h3, h4⟩ := goalS_zero h
  unfold badG at h4
  exact ⟨dirsR_ok h3, by omega, by omega, by omega, by omega, by omega, by omega⟩
theorem goal_okS {g : Goal} {x first : V} (h : goalS g = 0) (hf : (legS first).2 = true) : okS g x first := by
  have hg := goal_okG h
  obtain ⟨h1, h2, h3, h4⟩ := goalS_zero h
  refine ⟨h1, fun D hD => dir_leg (hg.dirs D hD), ⟨hg.t0, by have := hg.t2; omega, by have := hg.t1; have := hg.t3; omega, by have := hg.t3; omega⟩, hf⟩
/-- The reference's path to a goal. -/
def rplanS (from' first : V) (g : Goal) : Pth × Int :=
  if goalS g ≠ 0 then (((0, 0, 0), []), goalS g) else if validS from' = false then (((0, 0, 0), []), 2) else if (longS first).2 = false then (((0, 0, 0), []), 3)
  else if (goR g from' first g.2.2.1.toNat ([], [], ((((0, 0, 0) : V), []), false))).2.2.2 = false then (((0, 0, 0), []), 7) else ((goR g from' first g.2.2.1.toNat ([], [], ((((0, 0, 0) : V), []), false))).2.2.1, 0)
theorem plans_same (from' first : V) (g : Goal) : planS from' first g = rplanS from' first g := by
  unfold planS rplanS
  rw [(long_leg2 first).1]
  by_cases h1 : goalS g ≠ 0
  · rw [if_pos h1, if_pos h1]
  rw [if_neg h1, if_neg h1]
  by_cases h2 : validS from' = false
  · rw [if_pos h2, if_pos h2]
  rw [if_neg h2, if_neg h2]
  by_cases h3 : (legS first).2 = false
  · rw [if_pos h3, if_pos h3]
  rw [if_neg h3, if_neg h3]
  have hg0 : goalS g = 0 := by simpa using h1
  have hk := (goalS_zero hg0).1
  rcases plan_rel (goal_okG hg0) (x := from') (first := first) (by simpa using h2) (by simpa using h3) (j := g.2.2.1.toNat) (by have := hk.2.2.2.2; omega) ((0, 0, 0), []) with ⟨a1, a2⟩ | ⟨a1, a2, a3⟩
  · rw [if_pos a1, if_pos a2]
  · rw [if_neg (by omega), a2, if_neg (by simp)]

end
end Go.MP
