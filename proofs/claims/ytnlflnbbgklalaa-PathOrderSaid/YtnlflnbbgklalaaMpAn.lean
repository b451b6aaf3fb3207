/- The plain law PathOrder: separation as a property of normals; what follows of order, radius, sources, and of joints. -/
import Derived.Test.YtnlflnbbgklalaaMpAm
namespace Go.MP
open Go Go.Sx Go.Proofs
set_option linter.unusedVariables false
set_option linter.unusedSimpArgs false
noncomputable section

theorem pairsB_mem {p : V → V → Bool} (hp : ∀ v w, p v w = p w v) : ∀ {s : List V} {v w : V}, v ∈ s → w ∈ s → v ≠ w → p v w = true → pairsB p s = true
  | u :: r, v, w, hv, hw, hne, h => by
    rw [pairsB, Bool.or_eq_true]
    rcases List.mem_cons.1 hv with rfl | hv'
    · rcases List.mem_cons.1 hw with rfl | hw
      · exact absurd rfl hne
      · exact .inl (List.any_eq_true.2 ⟨w, hw, h⟩)
    · rcases List.mem_cons.1 hw with rfl | hw'
      · exact .inl (List.any_eq_true.2 ⟨v, hv', by rw [hp]; exact h⟩)
      · exact .inr (pairsB_mem hp hv' hw' hne h)
theorem empty_iff {c : V} {s : List V} {r : Int} (hc : inB c 8388608 = true) (hs : ∀ g ∈ s, inB g 131072 = true) (hl : s.length ≤ 200) (hr : 0 < r) (hb : ∀ g ∈ boxV r, g ∈ s) : emptyS c s = true ↔ ∃ n, sepZ c s n := by
  refine ⟨empty_normal hc hs hl, fun ⟨n, hn⟩ => ?_⟩
  obtain ⟨v, hv, w, hw, hne, h⟩ := normal_pair hr (hb _ (by simp [boxV])) (hb _ (by simp [boxV])) (hb _ (by simp [boxV])) hn
  rw [emptyS_pairs]
  exact pairsB_mem (sepB_swap c s) hv hw hne ((sep_exact hc hs hl (hs v hv) (hs w hw)).2 h)
theorem boxV_nz {r : Int} (hr : 0 < r) : ∀ g ∈ boxV r, g ∈ (boxV r).filter nzB := fun g hg => by
  rw [List.mem_filter]
  refine ⟨hg, ?_⟩
  unfold boxV at hg
  have h0 : (r == 0) = false := by rw [beq_eq_false_iff_ne]; omega
  simp only [List.mem_cons, List.not_mem_nil, or_false] at hg
  rcases hg with rfl | rfl | rfl <;> unfold nzB <;> simp [h0] <;> omega

def sepN (p : Pth) (l : List Src) (i : Int) (p' : Pth) (l' : List Src) (j r : Int) : Prop := ∃ n, sepZ (sCentre p.2 (jointsS p) i p'.2 (jointsS p') j) (sSides p.2 l i p'.2 l' j (2 * r)) n
def tchN (p : Pth) (l : List Src) (i : Int) (p' : Pth) (l' : List Src) (j r : Int) : Prop := ∃ n, sepZ (vsub ((jointsS p).getD i.toNat (0, 0, 0)) ((jointsS p').getD j.toNat (0, 0, 0))) (tSides l i l' j r) n
theorem separate_iff {p p' : Pth} {l l' : List Src} {i j r : Int} (h : csS p l = 0) (h' : csS p' l' = 0) (r0 : 1 ≤ r) (r1 : r ≤ 4000) :
    separateW p.2 l (jointsS p) i p'.2 l' (jointsS p') j r = true ↔ sepN p l i p' l' j r := by
  unfold separateW
  rw [W_id (n := 2 * r) (by omega) (by omega)]
  obtain ⟨a1, a2, _⟩ := csS_zero h
  obtain ⟨b1, b2, _⟩ := csS_zero h'
  have hlen := sSides_len (qa := p.2) (qb := p'.2) (la := l) (lb := l') (i := i) (j := j) (r := 2 * r)
  refine empty_iff (r := 2 * r) (centre_zs a1 b1 i j).2 (sSides_in (legs_in a1) (legs_in b1) (csS_okSh h) (csS_okSh h') (by omega) (by omega)) (by omega) (by omega) fun g hg => ?_
  unfold sSides
  exact List.mem_append_right _ (boxV_nz (by omega) g hg)
theorem touch_iff {p p' : Pth} {l l' : List Src} {i j r : Int} (h : csS p l = 0) (h' : csS p' l' = 0) (r0 : 1 ≤ r) (r1 : r ≤ 4000) :
    touchW l (jointsS p) i l' (jointsS p') j r = false ↔ tchN p l i p' l' j r := by
  obtain ⟨a1, a2, _⟩ := csS_zero h
  obtain ⟨b1, b2, _⟩ := csS_zero h'
  have c1 := joint_in a1 i.toNat
  have c2 := joint_in b1 j.toNat
  have ec := vsub_zs c1 c2 (by omega)
  unfold touchW tchN
  rw [Bool.not_eq_false', ec]
  have hlen := tSides_len (la := l) (lb := l') (i := i) (j := j) (r := r)
  refine empty_iff (r := r) (inB_mono (inB_zs c1 c2) (by omega)) (tSides_in (csS_okSh h) (csS_okSh h') (by omega) (by omega)) (by omega) (by omega) fun g hg => ?_
  unfold tSides
  exact List.mem_append_right _ (boxV_nz (by omega) g hg)

/-! ### Radius, sources, order -/
theorem sumI_nonneg {α : Type} {f : α → Int} (hf : ∀ a, 0 ≤ f a) : ∀ l : List α, 0 ≤ sumI f l
  | [] => by simp [sumI]
  | a :: l => by have := sumI_nonneg hf l; have := hf a; rw [sumI]; omega
theorem sumI_le {α : Type} {f g : α → Int} (h : ∀ a, f a ≤ g a) : ∀ l : List α, sumI f l ≤ sumI g l
  | [] => by simp [sumI]
  | a :: l => by have := sumI_le h l; have := h a; rw [sumI, sumI]; omega
theorem sumI_perm {α : Type} {f : α → Int} {l m : List α} (h : l.Perm m) : sumI f l = sumI f m := by
  induction h with
  | nil => rfl
  | cons a _ ih => rw [sumI, sumI, ih]
  | swap a b l => rw [sumI, sumI, sumI, sumI]; omega
  | trans _ _ ih1 ih2 => rw [ih1, ih2]
theorem idsS_nodup (la lb : List Src) : (idsS la lb).Nodup := nodup_idsR (l := la ++ lb) List.nodup_nil
theorem idsS_mem {la lb : List Src} {a : Int} : a ∈ idsS la lb ↔ (∃ s ∈ la, s.1 = a) ∨ ∃ s ∈ lb, s.1 = a := by
  unfold idsS
  rw [mem_idsR]
  constructor
  · rintro (h | ⟨s, hs, e⟩)
    · cases h
    · rcases List.mem_append.1 hs with k | k
      · exact .inl ⟨s, k, e⟩
      · exact .inr ⟨s, k, e⟩
  · rintro (⟨s, hs, e⟩ | ⟨s, hs, e⟩)
    · exact .inr ⟨s, List.mem_append_left _ hs, e⟩
    · exact .inr ⟨s, List.mem_append_right _ hs, e⟩
theorem idsS_perm (la lb : List Src) : (idsS la lb).Perm (idsS lb la) := by
  rw [List.perm_ext_iff_of_nodup (idsS_nodup la lb) (idsS_nodup lb la)]
  intro a
  rw [idsS_mem, idsS_mem]
  exact Or.comm
theorem sep_less {p p' : Pth} {l l' : List Src} {i j r r' : Int} (h0 : 0 ≤ r') (h1 : r' ≤ r) (h : sepN p l i p' l' j r) : sepN p l i p' l' j r' := by
  obtain ⟨n, h⟩ := h
  refine ⟨n, ?_⟩
  unfold sepZ at *
  rw [reach_sSides (by omega)] at *
  have := Int.mul_le_mul_of_nonneg_right (show 2 * r' ≤ 2 * r by omega) (show 0 ≤ (n.1.natAbs : Int) + n.2.1.natAbs + n.2.2.natAbs by omega)
  omega
theorem sep_fewer {p p' : Pth} {l l' : List Src} {i j r : Int} (h0 : 0 ≤ r) (h : sepN p l i p' l' j r) : sepN p [] i p' [] j r := by
  obtain ⟨n, h⟩ := h
  refine ⟨n, ?_⟩
  unfold sepZ at *
  rw [reach_sSides (by omega)] at *
  have e1 := sumI_nonneg (f := fun k => ((dotZ n (sGen l i l' j k)).natAbs : Int)) (fun _ => Int.natCast_nonneg _) (idsS l l')
  have e2 := sumI_nonneg (f := fun s : Src => ((dotZ n (s.2.getD i.toNat (0, 0, 0))).natAbs : Int)) (fun _ => Int.natCast_nonneg _) l
  have e3 := sumI_nonneg (f := fun s : Src => ((dotZ n (s.2.getD j.toNat (0, 0, 0))).natAbs : Int)) (fun _ => Int.natCast_nonneg _) l'
  have e4 : idsS [] [] = [] := rfl
  rw [e4]
  simp only [sumI]
  omega
theorem sep_swap {p p' : Pth} {l l' : List Src} {i j r : Int} (hs : csS p l = 0) (hs' : csS p' l' = 0) (h0 : 0 ≤ r) (h : sepN p l i p' l' j r) : sepN p' l' j p l i r := by
  obtain ⟨n, h⟩ := h
  refine ⟨n, ?_⟩
  obtain ⟨a1, a2, _⟩ := csS_zero hs
  obtain ⟨b1, b2, _⟩ := csS_zero hs'
  unfold sepZ at *
  rw [reach_sSides (by omega)] at *
  rw [(centre_zs a1 b1 i j).1, dotZ_zs] at h
  rw [(centre_zs b1 a1 j i).1, dotZ_zs]
  have e : sumI (fun k => ((dotZ n (sGen l' j l i k)).natAbs : Int)) (idsS l' l) = sumI (fun k => ((dotZ n (sGen l i l' j k)).natAbs : Int)) (idsS l l') := by
    rw [sumI_perm (idsS_perm l' l)]
    refine sumI_congr fun k _ => ?_
    rw [(sGen_zs (csS_okSh hs) (csS_okSh hs') i j k).1, (sGen_zs (csS_okSh hs') (csS_okSh hs) j i k).1, dotZ_zs, dotZ_zs]
    omega
  omega
theorem tch_swap {p p' : Pth} {l l' : List Src} {i j r : Int} (hs : csS p l = 0) (hs' : csS p' l' = 0) (h0 : 0 ≤ r) (h : tchN p l i p' l' j r) : tchN p' l' j p l i r := by
  obtain ⟨n, h⟩ := h
  refine ⟨n, ?_⟩
  obtain ⟨a1, a2, _⟩ := csS_zero hs
  obtain ⟨b1, b2, _⟩ := csS_zero hs'
  have c1 := joint_in a1 i.toNat
  have c2 := joint_in b1 j.toNat
  unfold sepZ at *
  rw [reach_tSides h0] at *
  rw [vsub_zs c1 c2 (by omega), dotZ_zs] at h
  rw [vsub_zs c2 c1 (by omega), dotZ_zs]
  have e : sumI (fun k => ((dotZ n (tGen l' j l i k)).natAbs : Int)) (idsS l' l) = sumI (fun k => ((dotZ n (tGen l i l' j k)).natAbs : Int)) (idsS l l') := by
    rw [sumI_perm (idsS_perm l' l)]
    refine sumI_congr fun k _ => ?_
    rw [(tGen_zs (csS_okSh hs) (csS_okSh hs') i j k).1, (tGen_zs (csS_okSh hs') (csS_okSh hs) j i k).1, dotZ_zs, dotZ_zs]
    omega
  omega

/-! ### Joints of separate legs -/
theorem mid_pt {p : Pth} {l : List Src} (h : csS p l = 0) {i : Int} (i0 : 0 ≤ i) (i1 : i < p.2.length) (n : V) (k : Int) {δ : Int} (hδ : δ = 0 ∨ δ = 1) :
    ∃ e : Int, e.natAbs ≤ (lk (fun s => dotZ n (s.2.getD i.toNat (0, 0, 0))) l k).natAbs ∧ dotZ n (midS l k i) = 2 * dotZ n (watS l k (i + δ)) + e := by
  have hl := (csS_zero h).2.2
  have hok := csS_okSh h
  rw [mid_za hok, dotZ_za]
  have e1 : dotZ n (watS l k (i + 1)) = dotZ n (watS l k i) + lk (fun s => dotZ n (s.2.getD i.toNat (0, 0, 0))) l k := by
    rw [dot_wat, dot_wat]
    unfold lk
    cases ha : l.any (idB k)
    · simp
    · have hm := srcS_mem ha
      simp only [cond_true]
      rw [sh_next hok hm i0 (by rw [hl _ hm]; omega), dotZ_za]
  generalize lk (fun s => dotZ n (s.2.getD i.toNat (0, 0, 0))) l k = e at *
  rcases hδ with rfl | rfl
  · refine ⟨e, by omega, ?_⟩
    rw [e1, Int.add_zero]
    omega
  · refine ⟨-e, by omega, ?_⟩
    rw [e1]
    omega
theorem lk_abs {h : Src → Int} {l : List Src} (k : Int) : ((lk h l k).natAbs : Int) = lk (fun s => ((h s).natAbs : Int)) l k := by
  unfold lk
  cases l.any (idB k) <;> rfl
theorem joint_at {p : Pth} (h : checkS p = 0) {i : Int} (i0 : 0 ≤ i) (i1 : i < p.2.length) (n : V) {δ : Int} (hδ : δ = 0 ∨ δ = 1) :
    ∃ e : Int, e.natAbs = (dotZ n (p.2.getD i.toNat (0, 0, 0))).natAbs ∧ dotZ n (za (zm 2 ((jointsS p).getD i.toNat (0, 0, 0))) (p.2.getD i.toNat (0, 0, 0))) = 2 * dotZ n ((jointsS p).getD (i + δ).toNat (0, 0, 0)) + e := by
  rw [dotZ_za, dotZ_zm]
  rcases hδ with rfl | rfl
  · rw [Int.add_zero]; exact ⟨_, rfl, rfl⟩
  · rw [joint_next h i0 i1, dotZ_za]
    refine ⟨-dotZ n (p.2.getD i.toNat (0, 0, 0)), by omega, by omega⟩
theorem sep_tch {p p' : Pth} {l l' : List Src} {i j r δ ε : Int} (hs : csS p l = 0) (hs' : csS p' l' = 0) (h0 : 0 ≤ r) (i0 : 0 ≤ i) (i1 : i < p.2.length) (j0 : 0 ≤ j) (j1 : j < p'.2.length) (hδ : δ = 0 ∨ δ = 1) (hε : ε = 0 ∨ ε = 1)
    (h : sepN p l i p' l' j r) : tchN p l (i + δ) p' l' (j + ε) r := by
  obtain ⟨n, h⟩ := h
  refine ⟨n, ?_⟩
  obtain ⟨a1, a2, _⟩ := csS_zero hs
  obtain ⟨b1, b2, _⟩ := csS_zero hs'
  have c1 := joint_in a1 (i + δ).toNat
  have c2 := joint_in b1 (j + ε).toNat
  unfold sepZ at *
  rw [reach_sSides (by omega), (centre_zs a1 b1 i j).1, dotZ_zs] at h
  rw [reach_tSides h0, vsub_zs c1 c2 (by omega), dotZ_zs]
  obtain ⟨e1, x1, y1⟩ := joint_at a1 i0 i1 n hδ
  obtain ⟨e2, x2, y2⟩ := joint_at b1 j0 j1 n hε
  rw [y1, y2] at h
  have hG : 2 * sumI (fun k => ((dotZ n (tGen l (i + δ) l' (j + ε) k)).natAbs : Int)) (idsS l l') ≤
      sumI (fun k => ((dotZ n (sGen l i l' j k)).natAbs : Int)) (idsS l l') + sumI (fun s : Src => ((dotZ n (s.2.getD i.toNat (0, 0, 0))).natAbs : Int)) l + sumI (fun s : Src => ((dotZ n (s.2.getD j.toNat (0, 0, 0))).natAbs : Int)) l' := by
    rw [← sumI_mul, ← lk_sum (idsS_nodup l l') (csS_distinct hs) (fun s hs => idsS_mem.2 (.inl ⟨s, hs, rfl⟩)), ← lk_sum (idsS_nodup l l') (csS_distinct hs') (fun s hs => idsS_mem.2 (.inr ⟨s, hs, rfl⟩)), ← sumI_add, ← sumI_add]
    refine sumI_le (fun k => ?_) _
    rw [(tGen_zs (csS_okSh hs) (csS_okSh hs') (i + δ) (j + ε) k).1, (sGen_zs (csS_okSh hs) (csS_okSh hs') i j k).1, dotZ_zs, dotZ_zs]
    obtain ⟨f1, u1, v1⟩ := mid_pt hs i0 i1 n k hδ
    obtain ⟨f2, u2, v2⟩ := mid_pt hs' j0 j1 n k hε
    rw [v1, v2, ← lk_abs, ← lk_abs]
    omega
  have m : 2 * r * ((n.1.natAbs : Int) + n.2.1.natAbs + n.2.2.natAbs) = 2 * (r * ((n.1.natAbs : Int) + n.2.1.natAbs + n.2.2.natAbs)) := Int.mul_assoc 2 r _
  omega

/-! ### The whole paths -/
theorem allN_iff {p : Int → Bool} : ∀ {n : Nat} {i : Int}, allN p i n = true ↔ ∀ k, i ≤ k → k < i + n → p k = true
  | 0, i => ⟨fun _ k h1 h2 => by omega, fun _ => rfl⟩
  | n + 1, i => by
    rw [allN, Bool.and_eq_true, allN_iff]
    constructor
    · rintro ⟨h1, h2⟩ k k1 k2
      by_cases e : k = i
      · subst e; exact h1
      · exact h2 k (by omega) (by omega)
    · exact fun h => ⟨h i (Int.le_refl _) (by omega), fun k k1 k2 => h k (by omega) (by omega)⟩
theorem anyN_iff {p : Int → Bool} : ∀ {n : Nat} {i : Int}, anyN p i n = true ↔ ∃ k, i ≤ k ∧ k < i + n ∧ p k = true
  | 0, i => ⟨fun h => (by cases h), fun ⟨k, h1, h2, _⟩ => (by omega)⟩
  | n + 1, i => by
    rw [anyN, Bool.or_eq_true, anyN_iff]
    constructor
    · rintro (h | ⟨k, h1, h2, h3⟩)
      · exact ⟨i, Int.le_refl _, by omega, h⟩
      · exact ⟨k, by omega, by omega, h3⟩
    · rintro ⟨k, h1, h2, h3⟩
      by_cases e : k = i
      · subst e; exact .inl h3
      · exact .inr ⟨k, by omega, by omega, h3⟩
/-- All legs are separate. -/
def allSep (p : Pth) (l : List Src) (p' : Pth) (l' : List Src) (r : Int) : Prop := ∀ i j : Int, 0 ≤ i → i < p.2.length → 0 ≤ j → j < p'.2.length → sepN p l i p' l' j r
theorem clear_iff {p p' : Pth} {l l' : List Src} {r : Int} (h : csS p l = 0) (h' : csS p' l' = 0) (r0 : 1 ≤ r) (r1 : r ≤ 4000) : clearW p.2 l (jointsS p) p'.2 l' (jointsS p') r 0 = true ↔ allSep p l p' l' r := by
  unfold clearW allSep
  rw [allN_iff]
  constructor
  · intro H i j i0 i1 j0 j1
    have := allN_iff.1 (H i i0 (by omega)) j j0 (by omega)
    exact (separate_iff h h' r0 r1).1 this
  · intro H i i0 i1
    rw [allN_iff]
    intro j j0 j1
    exact (separate_iff h h' r0 r1).2 (H i j i0 (by omega) j0 (by omega))
def someTouch (p : Pth) (l : List Src) (p' : Pth) (l' : List Src) (r : Int) : Prop := ∃ i j : Int, 0 ≤ i ∧ i ≤ p.2.length ∧ 0 ≤ j ∧ j ≤ p'.2.length ∧ ¬ tchN p l i p' l' j r
theorem joints_len {p : Pth} (h : checkS p = 0) : (jointsS p).length = p.2.length + 1 := by unfold jointsS; rw [if_pos h, jl_length]
theorem gap_spec {q : Int → Bool} : ∀ (n : Nat) (i j : Int), (j - i).toNat ≤ n → 0 ≤ i → i ≤ j → (∀ a b, 0 ≤ a → a ≤ b → b < 4000 → q a = true → q b = true) → (∀ a, 0 ≤ a → a < i → q a = false) → (∀ a, j ≤ a → a < 4000 → q a = true) → j ≤ 4000 →
    i ≤ searchR q i j ∧ searchR q i j ≤ j ∧ ∀ a, 0 ≤ a → a < 4000 → (q a = true ↔ searchR q i j ≤ a)
  | 0, i, j, hn, h0, h1, hm, hl, hr, h4 => by
    rw [searchR, if_neg (by omega)]
    refine ⟨Int.le_refl _, h1, fun a a0 a1 => ⟨fun h => ?_, fun h => hr a (by omega) a1⟩⟩
    rcases Int.lt_or_le a i with k | k
    · rw [hl a a0 k] at h; cases h
    · exact k
  | n + 1, i, j, hn, h0, h1, hm, hl, hr, h4 => by
    rw [searchR]
    by_cases hij : i < j
    · rw [if_pos hij]
      by_cases hq : q ((i + j) / 2) = true
      · rw [if_pos hq]
        obtain ⟨k1, k2, k3⟩ := gap_spec (q := q) n i ((i + j) / 2) (by omega) h0 (by omega) hm hl (fun a a0 a1 => hm _ _ (by omega) a0 a1 hq) (by omega)
        exact ⟨k1, by omega, k3⟩
      · rw [if_neg hq]
        have hq' : q ((i + j) / 2) = false := by simpa using hq
        obtain ⟨k1, k2, k3⟩ := gap_spec (q := q) n ((i + j) / 2 + 1) j (by omega) (by omega) (by omega) hm (fun a a0 a1 => by
          cases e : q a
          · rfl
          · rw [hm a ((i + j) / 2) a0 (by omega) (by omega) e] at hq'; cases hq') hr h4
        exact ⟨by omega, k2, k3⟩
    · rw [if_neg hij]
      refine ⟨Int.le_refl _, h1, fun a a0 a1 => ⟨fun h => ?_, fun h => hr a (by omega) a1⟩⟩
      rcases Int.lt_or_le a i with k | k
      · rw [hl a a0 k] at h; cases h
      · exact k

theorem touchN_iff {p p' : Pth} {l l' : List Src} {r : Int} (h : csS p l = 0) (h' : csS p' l' = 0) (r0 : 1 ≤ r) (r1 : r ≤ 4000) : touchN l (jointsS p) l' (jointsS p') r 0 = true ↔ someTouch p l p' l' r := by
  have j1 := joints_len (csS_zero h).1
  have j2 := joints_len (csS_zero h').1
  unfold touchN someTouch
  rw [anyN_iff]
  constructor
  · rintro ⟨i, i0, i1, hi⟩
    obtain ⟨j, j0, j1', hj⟩ := anyN_iff.1 hi
    refine ⟨i, j, i0, by omega, j0, by omega, fun k => ?_⟩
    rw [(touch_iff h h' r0 r1).2 k] at hj
    cases hj
  · rintro ⟨i, j, i0, i1, j0, j1', hn⟩
    refine ⟨i, i0, by omega, anyN_iff.2 ⟨j, j0, by omega, ?_⟩⟩
    cases e : touchW l (jointsS p) i l' (jointsS p') j r
    · exact absurd ((touch_iff h h' r0 r1).1 e) hn
    · rfl
theorem known_spec {p p' : Pth} {l l' : List Src} {r : Int} (h : csS p l = 0) (h' : csS p' l' = 0) (r0 : 1 ≤ r) (r1 : r ≤ 4000) :
    (knownS p l p' l' r = (2, 0) ∧ someTouch p l p' l' r) ∨ (knownS p l p' l' r = (1, 0) ∧ ¬ someTouch p l p' l' r ∧ allSep p l p' l' r) ∨ (knownS p l p' l' r = (3, 0) ∧ ¬ someTouch p l p' l' r ∧ ¬ allSep p l p' l' r) := by
  have hb : bothS p l p' l' = 0 := by unfold bothS; rw [h]; simpa using h'
  unfold knownS
  rw [if_neg (by rw [hb]; simp), if_neg (by omega)]
  by_cases ht : touchN l (jointsS p) l' (jointsS p') r 0 = true
  · rw [if_pos ht]; exact .inl ⟨rfl, (touchN_iff h h' r0 r1).1 ht⟩
  · rw [if_neg ht]
    have ht' : ¬ someTouch p l p' l' r := fun k => ht ((touchN_iff h h' r0 r1).2 k)
    by_cases hc : clearW p.2 l (jointsS p) p'.2 l' (jointsS p') r 0 = true
    · rw [if_pos hc]; exact .inr (.inl ⟨rfl, ht', (clear_iff h h' r0 r1).1 hc⟩)
    · rw [if_neg hc]; exact .inr (.inr ⟨rfl, ht', fun k => hc ((clear_iff h h' r0 r1).2 k)⟩)
theorem gap_law {p p' : Pth} {l l' : List Src} (h : csS p l = 0) (h' : csS p' l' = 0) : ∃ g, gapS p l p' l' = (g, 0) ∧ 0 ≤ g ∧ g ≤ 4000 ∧ ∀ r, 1 ≤ r → r ≤ 4000 → (r ≤ g ↔ allSep p l p' l' r) := by
  have hb : bothS p l p' l' = 0 := by unfold bothS; rw [h]; simpa using h'
  refine ⟨searchR (fun m => !clearW p.2 l (jointsS p) p'.2 l' (jointsS p') (m + 1) 0) 0 4000, ?_, ?_⟩
  · unfold gapS
    rw [if_neg (by rw [hb]; simp)]
  · have key : ∀ m, 0 ≤ m → m < 4000 → ((!clearW p.2 l (jointsS p) p'.2 l' (jointsS p') (m + 1) 0) = true ↔ ¬ allSep p l p' l' (m + 1)) := fun m m0 m1 => by
      rw [Bool.not_eq_true', ← Bool.not_eq_true, clear_iff h h' (by omega) (by omega)]
    obtain ⟨s1, s2, s3⟩ := gap_spec (q := fun m => !clearW p.2 l (jointsS p) p'.2 l' (jointsS p') (m + 1) 0) 4000 0 4000 (by decide) (by decide) (by decide) (fun a b a0 ab b1 hq => by
      rw [key a a0 (by omega)] at hq
      rw [key b (by omega) b1]
      exact fun k => hq fun i j i0 i1 j0 j1 => sep_less (by omega) (by omega) (k i j i0 i1 j0 j1)) (fun a a0 a1 => by omega) (fun a a0 a1 => by omega) (by decide)
    refine ⟨s1, s2, fun r r0 r1 => ?_⟩
    have := s3 (r - 1) (by omega) (by omega)
    rw [key (r - 1) (by omega) (by omega), show r - 1 + 1 = r by omega] at this
    constructor
    · intro k
      exact Classical.byContradiction fun q => by have := this.1 q; omega
    · intro k
      rcases Int.lt_or_le (searchR (fun m => !clearW p.2 l (jointsS p) p'.2 l' (jointsS p') (m + 1) 0) 0 4000) r with q | q
      · exact absurd k (this.2 (by omega))
      · exact q
theorem touch_swap {p p' : Pth} {l l' : List Src} {r : Int} (h : csS p l = 0) (h' : csS p' l' = 0) (r0 : 0 ≤ r) (k : someTouch p l p' l' r) : someTouch p' l' p l r := by
  obtain ⟨i, j, i0, i1, j0, j1, hn⟩ := k
  exact ⟨j, i, j0, j1, i0, i1, fun q => hn (tch_swap h' h r0 q)⟩
theorem all_swap {p p' : Pth} {l l' : List Src} {r : Int} (h : csS p l = 0) (h' : csS p' l' = 0) (r0 : 0 ≤ r) (k : allSep p l p' l' r) : allSep p' l' p l r :=
  fun i j i0 i1 j0 j1 => sep_swap h h' r0 (k j i j0 j1 i0 i1)
theorem own_touch {p : Pth} {l : List Src} {r : Int} (h : csS p l = 0) (r0 : 0 ≤ r) : someTouch p l p l r := by
  refine ⟨0, 0, by decide, by omega, by decide, by omega, fun ⟨n, hn⟩ => ?_⟩
  have c1 := joint_in (csS_zero h).1 (0 : Int).toNat
  unfold sepZ at hn
  rw [vsub_zs c1 c1 (by omega), dotZ_zs] at hn
  have := reachZ_nonneg n (tSides l 0 l 0 r)
  omega
theorem no_touch {p p' : Pth} {l l' : List Src} {r : Int} (h : csS p l = 0) (h' : csS p' l' = 0) (r0 : 0 ≤ r) (q0 : 0 < p.2.length) (q1 : 0 < p'.2.length) (k : allSep p l p' l' r) : ¬ someTouch p l p' l' r := by
  rintro ⟨i, j, i0, i1, j0, j1, hn⟩
  apply hn
  have e : ∀ (i : Int) (n : Nat), 0 ≤ i → i ≤ n → 0 < n → ∃ a δ : Int, 0 ≤ a ∧ a < n ∧ (δ = 0 ∨ δ = 1) ∧ a + δ = i := fun i n h0 h1 h2 => by
    by_cases c : i < n
    · exact ⟨i, 0, h0, c, .inl rfl, by omega⟩
    · exact ⟨i - 1, 1, by omega, by omega, .inr rfl, by omega⟩
  obtain ⟨a, δ, a0, a1, aδ, ea⟩ := e i _ i0 i1 q0
  obtain ⟨b, ε, b0, b1, bε, eb⟩ := e j _ j0 j1 q1
  rw [← ea, ← eb]
  exact sep_tch h h' r0 a0 a1 b0 b1 aδ bε (k a b a0 a1 b0 b1)
theorem all_fewer {p p' : Pth} {l l' : List Src} {r : Int} (r0 : 0 ≤ r) (k : allSep p l p' l' r) : allSep p [] p' [] r := fun i j i0 i1 j0 j1 => sep_fewer r0 (k i j i0 i1 j0 j1)

end
end Go.MP
