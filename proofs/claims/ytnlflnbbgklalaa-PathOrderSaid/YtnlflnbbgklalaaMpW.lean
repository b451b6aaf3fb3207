/- The plain law of errors: a zonotope without 0 is separated by a normal; what it means for wells. -/
import Derived.Test.YtnlflnbbgklalaaMpV
import Derived.Test.YtnlflnbbgklalaaMpQ
namespace Go.MP
open Go Go.Sx Go.Proofs
set_option linter.unusedVariables false
set_option linter.unusedSimpArgs false
noncomputable section

/-! ### Vectors without wraps -/
def za (v w : V) : V := (v.1 + w.1, v.2.1 + w.2.1, v.2.2 + w.2.2)
def zs (v w : V) : V := (v.1 - w.1, v.2.1 - w.2.1, v.2.2 - w.2.2)
def zm (k : Int) (v : V) : V := (k * v.1, k * v.2.1, k * v.2.2)
def crossZ (v w : V) : V := (v.2.1 * w.2.2 - v.2.2 * w.2.1, v.2.2 * w.1 - v.1 * w.2.2, v.1 * w.2.1 - v.2.1 * w.1)
theorem dotZ_za (n v w : V) : dotZ n (za v w) = dotZ n v + dotZ n w := by
  unfold dotZ za
  simp only [Int.mul_add]
  omega
theorem dotZ_zs (n v w : V) : dotZ n (zs v w) = dotZ n v - dotZ n w := by
  unfold dotZ zs
  simp only [Int.mul_sub]
  omega
theorem dotZ_zm (n : V) (k : Int) (v : V) : dotZ n (zm k v) = k * dotZ n v := by
  unfold dotZ zm
  simp only [Int.mul_add, Int.mul_left_comm n.1 k, Int.mul_left_comm n.2.1 k, Int.mul_left_comm n.2.2 k]
theorem dotZ_0 (n : V) : dotZ n (0, 0, 0) = 0 := by
  unfold dotZ
  simp
theorem inB_za {v w : V} {A B : Int} (hv : inB v A = true) (hw : inB w B = true) : inB (za v w) (A + B) = true := by
  rw [inB_iff] at *
  unfold za
  dsimp only
  omega
theorem inB_zs {v w : V} {A B : Int} (hv : inB v A = true) (hw : inB w B = true) : inB (zs v w) (A + B) = true := by
  rw [inB_iff] at *
  unfold zs
  dsimp only
  omega
theorem inB_zm2 {v : V} {A : Int} (hv : inB v A = true) : inB (zm 2 v) (2 * A) = true := by
  rw [inB_iff] at *
  unfold zm
  dsimp only
  omega
theorem vadd_za {v w : V} {A B : Int} (hv : inB v A = true) (hw : inB w B = true) (h : A + B ≤ 4611686018427387904) : vadd v w = za v w := by
  rw [inB_iff] at *
  unfold vadd za
  rw [W_id (by omega) (by omega), W_id (by omega) (by omega), W_id (by omega) (by omega)]
theorem vsub_zs {v w : V} {A B : Int} (hv : inB v A = true) (hw : inB w B = true) (h : A + B ≤ 4611686018427387904) : vsub v w = zs v w := by
  rw [inB_iff] at *
  unfold vsub zs
  rw [W_id (by omega) (by omega), W_id (by omega) (by omega), W_id (by omega) (by omega)]
theorem vmul_zm2 {v : V} {A : Int} (hv : inB v A = true) (h : A ≤ 2305843009213693952) : vmul v 2 = zm 2 v := by
  rw [inB_iff] at *
  unfold vmul zm
  rw [W_id (by omega) (by omega), W_id (by omega) (by omega), W_id (by omega) (by omega), Int.mul_comm v.1, Int.mul_comm v.2.1, Int.mul_comm v.2.2]

theorem dot_bnd {n g : V} {N G : Int} (hn : inB n N = true) (hg : inB g G = true) : -(3 * (N * G)) ≤ dotZ n g ∧ dotZ n g ≤ 3 * (N * G) := by
  rw [inB_iff] at *
  have h1 := mulB hn.1 hg.1
  have h2 := mulB hn.2.1 hg.2.1
  have h3 := mulB hn.2.2 hg.2.2
  unfold dotZ
  omega
theorem vdot_dotZ {n g : V} {N G : Int} (hn : inB n N = true) (hg : inB g G = true) (h : N * G ≤ 1152921504606846976) : vdot n g = dotZ n g := by
  rw [inB_iff] at *
  have h1 := mulB hn.1 hg.1
  have h2 := mulB hn.2.1 hg.2.1
  have h3 := mulB hn.2.2 hg.2.2
  unfold vdot dotZ
  rw [W_id (n := n.1 * g.1) (by omega) (by omega), W_id (n := n.2.1 * g.2.1) (by omega) (by omega), W_id (n := n.2.2 * g.2.2) (by omega) (by omega), W_id (n := n.1 * g.1 + n.2.1 * g.2.1) (by omega) (by omega), W_id (by omega) (by omega)]
theorem vcross_crossZ {v w : V} (hv : inB v 131072 = true) (hw : inB w 131072 = true) : vcross v w = crossZ v w ∧ inB (crossZ v w) 34359738368 = true := by
  have hw' := hw
  rw [inB_iff] at hv hw ⊢
  have h1 := mulB hv.2.1 hw.2.2
  have h2 := mulB hv.2.2 hw.2.1
  have h3 := mulB hv.2.2 hw.1
  have h4 := mulB hv.1 hw.2.2
  have h5 := mulB hv.1 hw.2.1
  have h6 := mulB hv.2.1 hw.1
  unfold vcross crossZ
  dsimp only
  refine ⟨?_, by omega, by omega, by omega⟩
  rw [W_id (n := v.2.1 * w.2.2) (by omega) (by omega), W_id (n := v.2.2 * w.2.1) (by omega) (by omega), W_id (n := v.2.2 * w.1) (by omega) (by omega), W_id (n := v.1 * w.2.2) (by omega) (by omega), W_id (n := v.1 * w.2.1) (by omega) (by omega), W_id (n := v.2.1 * w.1) (by omega) (by omega),
    W_id (by omega) (by omega), W_id (by omega) (by omega), W_id (by omega) (by omega)]
theorem absI_nat {n : Int} (h1 : -9223372036854775808 < n) (h2 : n ≤ 9223372036854775807) : absI n = (n.natAbs : Int) := by
  unfold absI
  rw [W_id (by omega) (by omega)]
  unfold maxI
  split <;> omega

/-! ### How far a zonotope reaches along a normal -/
def reachZ (n : V) : List V → Int
  | [] => 0
  | g :: s => ((dotZ n g).natAbs : Int) + reachZ n s
theorem reachZ_nonneg (n : V) : ∀ s : List V, 0 ≤ reachZ n s
  | [] => by simp [reachZ]
  | g :: s => by have := reachZ_nonneg n s; rw [reachZ]; omega
theorem reachZ_append (n : V) : ∀ s t : List V, reachZ n (s ++ t) = reachZ n s + reachZ n t
  | [], t => by simp [reachZ]
  | g :: s, t => by rw [List.cons_append, reachZ, reachZ, reachZ_append n s t]; omega
theorem reachZ_filter (n : V) : ∀ s : List V, reachZ n (s.filter nzB) = reachZ n s
  | [] => rfl
  | g :: s => by
    rw [List.filter_cons]
    split
    · rw [reachZ, reachZ, reachZ_filter n s]
    · rename_i h
      have e : g = (0, 0, 0) := by
        unfold nzB at h
        simp only [Bool.not_eq_true', Bool.not_eq_false, Bool.and_eq_true, beq_iff_eq] at h
        obtain ⟨a, b, c⟩ := g
        obtain ⟨h1, h2, h3⟩ := h
        simp only [] at h1 h2 h3
        rw [h1, h2, h3]
      rw [reachZ_filter n s, reachZ, e, dotZ_0]
      simp
theorem reachR_exact {n : V} {N G : Int} (hn : inB n N = true) (hG : N * G ≤ 36028797018963968) : ∀ (s : List V) (a : Int), (∀ g ∈ s, inB g G = true) → 0 ≤ a → a + 3 * (N * G) * s.length ≤ 9223372036854775807 → reachR n a s = a + reachZ n s
  | [], a, _, _, _ => by simp [reachR, reachZ]
  | g :: s, a, hs, h0, h1 => by
    have hg := hs g (by simp)
    have hb := dot_bnd hn hg
    rw [List.length_cons] at h1
    have h1' : a + 3 * (N * G) + 3 * (N * G) * s.length ≤ 9223372036854775807 := by
      have : 3 * (N * G) * ((s.length + 1 : Nat) : Int) = 3 * (N * G) * s.length + 3 * (N * G) := by
        rw [Int.natCast_add, Int.mul_add]; simp
      omega
    have hp : 0 ≤ 3 * (N * G) * (s.length : Int) := Int.mul_nonneg (by omega) (by omega)
    rw [reachR_cons, vdot_dotZ hn hg (by omega), absI_nat (by omega) (by omega), W_id (by omega) (by omega), reachR_exact hn hG s _ (fun g hg => hs g (by simp [hg])) (by omega) (by omega), reachZ]
    omega
/-- A normal separates 0 from a zonotope. -/
def sepZ (c : V) (s : List V) (n : V) : Prop := reachZ n s < ((dotZ n c).natAbs : Int)
theorem sep_exact {c : V} {s : List V} (hc : inB c 8388608 = true) (hs : ∀ g ∈ s, inB g 131072 = true) (hl : s.length ≤ 200) {v w : V} (hv : inB v 131072 = true) (hw : inB w 131072 = true) : sepB c s v w = true ↔ sepZ c s (crossZ v w) := by
  obtain ⟨e, hn⟩ := vcross_crossZ hv hw
  have hb := dot_bnd hn hc
  unfold sepB sepZ
  rw [e, vdot_dotZ hn hc (by decide), absI_nat (by omega) (by omega), reachR_exact hn (G := 131072) (by decide) s 0 hs (by omega) (by omega)]
  simp only [gt_iff_lt, decide_eq_true_eq]
  omega
theorem pairsB_ex {p : V → V → Bool} : ∀ {s : List V}, pairsB p s = true → ∃ v w, v ∈ s ∧ w ∈ s ∧ p v w = true
  | [], h => by cases h
  | u :: r, h => by
    rw [pairsB, Bool.or_eq_true] at h
    rcases h with h | h
    · obtain ⟨w, hw, h⟩ := List.any_eq_true.1 h
      exact ⟨u, w, by simp, by simp [hw], h⟩
    · obtain ⟨v, w, hv, hw, h⟩ := pairsB_ex h
      exact ⟨v, w, by simp [hv], by simp [hw], h⟩
theorem emptyS_pairs (c : V) (s : List V) : emptyS c s = pairsB (sepB c s) s := by
  rw [empty_inside (List.Perm.refl s)]
  unfold rinS
  rw [Bool.not_not]
/-- Without 0 there is a normal. -/
theorem empty_normal {c : V} {s : List V} (hc : inB c 8388608 = true) (hs : ∀ g ∈ s, inB g 131072 = true) (hl : s.length ≤ 200) (h : emptyS c s = true) : ∃ n, sepZ c s n := by
  rw [emptyS_pairs] at h
  obtain ⟨v, w, hv, hw, h⟩ := pairsB_ex h
  exact ⟨_, (sep_exact hc hs hl (hs v hv) (hs w hw)).1 h⟩
theorem boxV_reach {n : V} {r : Int} (h : 0 ≤ r) : reachZ n (boxV r) = r * ((n.1.natAbs : Int) + n.2.1.natAbs + n.2.2.natAbs) := by
  have e : ∀ x : Int, ((x * r).natAbs : Int) = r * (x.natAbs : Int) := fun x => by
    rw [Int.natAbs_mul, Int.natCast_mul, Int.mul_comm]
    congr 1
    omega
  unfold boxV
  simp only [reachZ]
  have e1 : dotZ n (r, 0, 0) = n.1 * r := by unfold dotZ; simp
  have e2 : dotZ n (0, r, 0) = n.2.1 * r := by unfold dotZ; simp
  have e3 : dotZ n (0, 0, r) = n.2.2 * r := by unfold dotZ; simp
  rw [e1, e2, e3, e, e, e, Int.mul_add, Int.mul_add]
  omega
/-- What lies farther along a normal than a box reaches is out of the box. -/
theorem out_of_box {n P : V} {R : Int} (hR : 0 ≤ R) (h : R * ((n.1.natAbs : Int) + n.2.1.natAbs + n.2.2.natAbs) < ((dotZ n P).natAbs : Int)) : R < P.1.natAbs ∨ R < P.2.1.natAbs ∨ R < P.2.2.natAbs := by
  by_cases h1 : R < P.1.natAbs
  · exact .inl h1
  by_cases h2 : R < P.2.1.natAbs
  · exact .inr (.inl h2)
  by_cases h3 : R < P.2.2.natAbs
  · exact .inr (.inr h3)
  exfalso
  have b1 := mulB (a := n.1) (b := P.1) (A := (n.1.natAbs : Int)) (B := R) (by omega) (by omega)
  have b2 := mulB (a := n.2.1) (b := P.2.1) (A := (n.2.1.natAbs : Int)) (B := R) (by omega) (by omega)
  have b3 := mulB (a := n.2.2) (b := P.2.2) (A := (n.2.2.natAbs : Int)) (B := R) (by omega) (by omega)
  rw [Int.mul_add, Int.mul_add, Int.mul_comm R, Int.mul_comm R, Int.mul_comm R] at h
  unfold dotZ at h
  omega

/-! ### Sums -/
def sumI {α : Type} (f : α → Int) : List α → Int
  | [] => 0
  | a :: l => f a + sumI f l
theorem sumI_add {α : Type} (f g : α → Int) : ∀ l : List α, sumI (fun a => f a + g a) l = sumI f l + sumI g l
  | [] => rfl
  | a :: l => by rw [sumI, sumI, sumI, sumI_add f g l]; omega
theorem sumI_sub {α : Type} (f g : α → Int) : ∀ l : List α, sumI (fun a => f a - g a) l = sumI f l - sumI g l
  | [] => rfl
  | a :: l => by rw [sumI, sumI, sumI, sumI_sub f g l]; omega
theorem sumI_mul {α : Type} (k : Int) (f : α → Int) : ∀ l : List α, sumI (fun a => k * f a) l = k * sumI f l
  | [] => by simp [sumI]
  | a :: l => by rw [sumI, sumI, sumI_mul k f l, Int.mul_add]
theorem sumI_congr {α : Type} {f g : α → Int} : ∀ {l : List α}, (∀ a ∈ l, f a = g a) → sumI f l = sumI g l
  | [], _ => rfl
  | a :: l, h => by rw [sumI, sumI, h a (by simp), sumI_congr fun b hb => h b (by simp [hb])]
theorem sumI_abs {α : Type} {f : α → Int} {g : α → Int} {K : Int} : ∀ {l : List α}, (∀ a ∈ l, ((f a).natAbs : Int) ≤ K * g a) → ((sumI f l).natAbs : Int) ≤ K * sumI g l
  | [], _ => by simp [sumI]
  | a :: l, h => by
    have h1 := h a (by simp)
    have h2 := sumI_abs (l := l) fun b hb => h b (by simp [hb])
    rw [sumI, sumI, Int.mul_add]
    omega
theorem sumI_0 {α : Type} : ∀ l : List α, sumI (fun _ => (0 : Int)) l = 0
  | [] => rfl
  | a :: l => by rw [sumI, sumI_0 l]; rfl
theorem sumI_single {k : Int} {x : Int} : ∀ {l : List Int}, l.Nodup → k ∈ l → sumI (fun a => if a = k then x else 0) l = x
  | [], _, h => by cases h
  | a :: l, hn, h => by
    rw [List.nodup_cons] at hn
    rw [sumI]
    by_cases e : a = k
    · subst e
      rw [if_pos rfl]
      have : sumI (fun b => if b = a then x else 0) l = sumI (fun _ => 0) l := sumI_congr fun b hb => if_neg fun e => by rw [e] at hb; exact hn.1 hb
      rw [this, sumI_0]; omega
    · rw [if_neg e, Int.zero_add]
      rcases List.mem_cons.1 h with h | h
      · exact absurd h.symm e
      · exact sumI_single hn.2 h
/-- What a list of sources has for an ID. -/
def lk (h : Src → Int) (l : List Src) (k : Int) : Int := bif l.any (idB k) then h (srcS l k) else 0
theorem lk_cons {h : Src → Int} {s : Src} {l : List Src} (hd : ∀ t ∈ l, t.1 ≠ s.1) (k : Int) : lk h (s :: l) k = (if k = s.1 then h s else 0) + lk h l k := by
  unfold lk srcS
  rw [List.any_cons, List.find?_cons]
  by_cases e : k = s.1
  · have h1 : idB k s = true := by unfold idB; simp [e]
    have h2 : l.any (idB k) = false := by
      cases hc : l.any (idB k) with
      | false => rfl
      | true =>
        obtain ⟨t, ht, e2⟩ := any_idB.1 hc
        exact absurd (e2.trans e) (hd t ht)
    rw [h1, h2, if_pos e]
    simp
  · have h1 : idB k s = false := by unfold idB; simp; exact fun h => e h.symm
    rw [h1, if_neg e, Bool.false_or, Int.zero_add]
def distinct : List Src → Prop
  | [] => True
  | s :: l => (∀ t ∈ l, t.1 ≠ s.1) ∧ distinct l
theorem lk_sum {h : Src → Int} {ids : List Int} (hn : ids.Nodup) : ∀ {l : List Src}, distinct l → (∀ s ∈ l, s.1 ∈ ids) → sumI (lk h l) ids = sumI h l
  | [], _, _ => by
    have : sumI (lk h []) ids = sumI (fun _ => 0) ids := sumI_congr fun a _ => rfl
    rw [this, sumI_0]
    rfl
  | s :: l, hd, hm => by
    have e : sumI (lk h (s :: l)) ids = sumI (fun k => (if k = s.1 then h s else 0) + lk h l k) ids := sumI_congr fun k _ => lk_cons hd.1 k
    rw [e, sumI_add, sumI_single hn (hm s (by simp)), lk_sum hn hd.2 fun t ht => hm t (by simp [ht]), sumI]
theorem distinct_of : ∀ {l : List Src} {c : Int}, orderBad c l = false → distinct l
  | [], c, _ => trivial
  | s :: r, c, h => by
    rw [orderBad, Bool.or_eq_false_iff] at h
    exact ⟨fun t ht => by have := (orderBad_mem h.2 t ht).1; omega, distinct_of h.2⟩
theorem csS_distinct {p : Pth} {l : List Src} (h : csS p l = 0) : distinct l := by
  unfold csS errorsS at h
  split at h
  · split at h
    · cases h
    · split at h
      · cases h
      · rename_i h1
        exact distinct_of (c := 0) (by simpa using h1)
  · rename_i h1; exact absurd h h1
theorem lk_mul {h : Src → Int} {c : Int → Int} {l : List Src} (k : Int) : lk (fun s => c s.1 * h s) l k = c k * lk h l k := by
  unfold lk
  cases ha : l.any (idB k) with
  | false => simp
  | true =>
    simp only [cond_true]
    have : (srcS l k).1 = k := by
      unfold srcS
      cases hf : l.find? (idB k) with
      | none =>
        rw [List.find?_eq_none] at hf
        obtain ⟨s, hs, e⟩ := List.any_eq_true.1 ha
        exact absurd e (hf s hs)
      | some s =>
        have := List.find?_some hf
        unfold idB at this
        simpa using this
    rw [this]

end
end Go.MP
