/- Rigs: which commands are lost, and what follows; the least ticks. -/
import Derived.Test.YtmolckndbmjgfaaMrW
import Derived.Test.YtmolckndbmjgfaaMrT
namespace Go.MR
open Go Go.Sx Go.Proofs
set_option linter.unusedVariables false
set_option linter.unusedSimpArgs false
noncomputable section
theorem lst_le {p : Nat → Bool} (hp : ∀ d, p d = true → p (d + 1) = true) {n d : Nat} (hd : d < n) : (0 ≤ lst p n ∧ lst p n ≤ d) ↔ p d = true := by
  have up : ∀ k d : Nat, p d = true → p (d + k) = true := fun k => by
    induction k with
    | zero => exact fun d h => h
    | succ k ih => exact fun d h => hp _ (ih d h)
  rcases lst_spec p n with ⟨h1, h2⟩ | ⟨k, h1, h2, h3, h4⟩
  · rw [h1, h2 d hd]
    constructor
    · intro h; omega
    · intro h; cases h
  · rw [h1]
    constructor
    · intro h
      have := up (d - k) k h3
      rw [show k + (d - k) = d by omega] at this
      exact this
    · intro h
      refine ⟨by omega, ?_⟩
      by_cases e : k ≤ d
      · omega
      · rw [h4 d (by omega)] at h; cases h
theorem tick_le {ps : List Int} {bs : List Ban} {g : List (Int × Int)} {l : Nat} {s : List Int} {d : Nat} (hd : d < 65) : (0 ≤ tickD ps bs g l s ∧ tickD ps bs g l s ≤ d) ↔ reD ps bs g d l s = true :=
  lst_le (p := fun d => reD ps bs g d l s) (fun d h => reD_mono d h) hd
theorem take_full {ps : List Int} {bs : List Ban} {g : List (Int × Int)} {l : Nat} (h : RgOk ps bs) (hl : l ≤ 2) {s m : List Int} (hs : VS ps s) (hm : m ∈ allM s.length) {d : Nat} (hd : d < 65) :
    takeM ps bs (cntTk ps bs g (l : Int)) s (l : Int) (d : Int) m = (okM ps bs s m && (nexts s m l).all fun y => reD ps bs g d y.2 y.1) := by
  have hI := cntTk_inv h g hl
  unfold takeM
  cases ho : okM ps bs s m with
  | false => rw [Bool.false_and, Bool.false_and]
  | true =>
    have hml := allM_len hm
    have hmi := allM_is hm
    have sl := hs.sl
    have l4 := h.l4
    have hp := h.pr
    rw [Bool.true_and, Bool.true_and, reachS_all hml.symm (small_of h.pb hs.sl hs.si hmi) (by omega) (by omega), Int.toNat_natCast]
    unfold okM at ho
    rw [Bool.and_eq_true] at ho
    refine all_congr fun y hy => ?_
    obtain ⟨v1, v2⟩ := nexts_vs h.pb hs.sl (by omega) hs.si hmi (waysS_ok ho.1) hy
    obtain ⟨n1, n2, n3⟩ := h.num v1
    have e := hI.2 y.2 y.1 v2 v1
    unfold tkL at e
    unfold okT
    rw [tkS_get _ _ _ n2 (by omega), Int.toNat_natCast, e]
    have hle := tick_le (ps := ps) (bs := bs) (g := g) (l := y.2) (s := y.1) hd
    unfold tickD at hle
    generalize lst (fun d => reD ps bs g d y.2 y.1) 65 = z at *
    rw [Bool.eq_iff_iff, ← hle, Bool.and_eq_true, Bool.not_eq_true', Bool.not_eq_true', decide_eq_false_iff_not, decide_eq_false_iff_not]
    omega
end
end Go.MR
