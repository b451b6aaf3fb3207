/- Rigs: numbers of states; what can follow a move. -/
import Derived.Test.YtmolckndbmjgfaaMrM
namespace Go.MR
open Go Go.Sx Go.Proofs
set_option linter.unusedVariables false
set_option linter.unusedSimpArgs false
noncomputable section
theorem numW_snoc : ∀ (ps s : List Int) (q p n : Int), s.length = ps.length → numW (ps ++ [q]) (s ++ [p]) n = IntKind.wrap IntKind.i64 (IntKind.wrap IntKind.i64 (numW ps s n * q) + p)
  | [], [], q, p, n, _ => by simp [numW]
  | [], _ :: _, q, p, n, h => by simp at h
  | _ :: _, [], q, p, n, h => by simp at h
  | q1 :: ps, p1 :: s, q, p, n, h => by
    rw [List.cons_append, List.cons_append, numW, numW, numW_snoc ps s q p _ (by simpa using h)]
theorem getD_app {a b : List Int} {k : Nat} (h : k < a.length) : (a ++ b).getD k 0 = a.getD k 0 := by
  rw [List.getD_eq_getElem?_getD, List.getD_eq_getElem?_getD, List.getElem?_append_left h]
theorem stR_app (ps : List Int) (q x : Int) : ∀ (k : Nat) (n : Int) (r : List Int), k ≤ ps.length → r.length = ps.length → stR (ps ++ [q]) k n (r ++ [x]) = stR ps k n r ++ [x]
  | 0, n, r, _, _ => rfl
  | k + 1, n, r, h, hr => by
    rw [stR, stR, getD_app (by omega), List.set_append_left _ _ (by omega), stR_app ps q x k _ _ (by omega) (by rw [List.length_set]; exact hr)]
theorem stS_snoc (ps : List Int) (q n : Int) : stS (ps ++ [q]) n = stS ps (IntKind.wrap IntKind.i64 (n.tdiv q)) ++ [n.tmod q] := by
  unfold stS
  rw [List.length_append, List.length_singleton, stR]
  have e : (ps ++ [q]).getD ps.length 0 = q := by
    rw [List.getD_eq_getElem?_getD, List.getElem?_append_right (Nat.le_refl _), Nat.sub_self]; rfl
  rw [e, List.replicate_succ', List.set_append_right _ _ (by rw [List.length_replicate]; omega), List.length_replicate, Nat.sub_self]
  show stR (ps ++ [q]) ps.length _ (List.replicate ps.length 0 ++ [n.tmod q]) = _
  rw [stR_app ps q _ ps.length _ _ (Nat.le_refl _) List.length_replicate]
theorem prodL_snoc : ∀ (ps : List Int) (q : Int), prodL (ps ++ [q]) = prodL ps * q
  | [], q => by simp [prodL]
  | x :: ps, q => by rw [List.cons_append, prodL, prodL, prodL_snoc ps q, Int.mul_assoc]
theorem snoc_cases {α : Type} (l : List α) : l = [] ∨ ∃ a x, l = a ++ [x] := by
  cases h : l.reverse with
  | nil => exact .inl (by rw [← List.reverse_reverse l, h]; rfl)
  | cons x a => exact .inr ⟨a.reverse, x, by rw [← List.reverse_reverse l, h, List.reverse_cons]⟩
theorem any_snoc {ps : List Int} {q : Int} (h : (ps ++ [q]).any badP = false) : ps.any badP = false ∧ 2 ≤ q ∧ q ≤ 8 := by
  rw [List.any_append, Bool.or_eq_false_iff] at h
  refine ⟨h.1, ?_⟩
  have := place_ne (i := 0) h.2 (by simp)
  exact this
theorem num_st : ∀ (k : Nat) {ps : List Int} {n : Int}, ps.length = k → ps.any badP = false → 0 ≤ n → n < prodL ps → prodL ps ≤ 4096 → numW ps (stS ps n) 0 = n
  | 0, ps, n, hk, _, h0, h1, _ => by
    have : ps = [] := List.eq_nil_of_length_eq_zero hk
    subst this
    rw [prodL] at h1
    show (0 : Int) = n
    omega
  | k + 1, ps, n, hk, hb, h0, h1, h2 => by
    rcases snoc_cases ps with rfl | ⟨a, q, rfl⟩
    · simp at hk
    · obtain ⟨hb1, hq1, hq2⟩ := any_snoc hb
      rw [prodL_snoc] at h1 h2
      have hp := prodL_rng hb1
      have hle : prodL a * 1 ≤ prodL a * q := Int.mul_le_mul_of_nonneg_left (by omega) (by omega)
      have d0 : 0 ≤ n.tdiv q := Int.tdiv_nonneg h0 (by omega)
      have hm0 : 0 ≤ n.tmod q := Int.tmod_nonneg _ h0
      have hm1 : n.tmod q < q := Int.tmod_lt_of_pos _ (by omega)
      have hdm := Int.mul_tdiv_add_tmod n q
      have d1 : n.tdiv q < prodL a := by
        apply Int.lt_of_mul_lt_mul_left (a := q)
        · rw [Int.mul_comm q (prodL a)]; omega
        · omega
      rw [stS_snoc, numW_snoc _ _ _ _ _ (stS_len a _), W_id (n := n.tdiv q) (by omega) (by omega), num_st k (by simpa using hk) hb1 d0 d1 (by omega)]
      have e : n.tdiv q * q = q * n.tdiv q := Int.mul_comm _ _
      rw [W_id (n := n.tdiv q * q) (by omega) (by omega), W_id (by omega) (by omega)]
      omega
end
end Go.MR
