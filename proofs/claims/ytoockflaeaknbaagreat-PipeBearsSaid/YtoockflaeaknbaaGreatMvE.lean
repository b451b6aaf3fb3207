/- Drags are monotone; loads stay in order and in range. -/
import Derived.Test.YtoockflaeaknbaaGreatMvD
namespace Go.MP
open Go Go.Sx Go.Proofs
set_option linter.unusedVariables false
set_option linter.unusedSimpArgs false
noncomputable section
theorem absI_eq (n:Int):absI n = if 0 ≤ n then n else -n:=by unfold absI; rw [maxI_eq]; split <;> omega
theorem absd {x y:Int} (h:x ≤ y):absI x ≤ absI y + (y - x) ∧ absI y ≤ absI x + (y - x):=by
  rw [absI_eq,absI_eq]
  split <;> split <;> omega
theorem low_mono {a c m b:Int} (h:a ≤ c) (hk:0 ≤ m * b):lowS9 a m b ≤ lowS9 c m b:=by
  unfold lowS9
  have:=Int.mul_le_mul_of_nonneg_right h hk
  omega
theorem low_lip {a c m b:Int} (h:a ≤ c) (hk:m * b ≤ 1000000000):lowS9 c m b ≤ lowS9 a m b + (c - a):=by
  unfold lowS9
  have h1:=Int.mul_le_mul_of_nonneg_left hk (show 0 ≤ c - a by omega)
  have e:c * (m * b) = a * (m * b) + (c - a) * (m * b):=by grind
  omega
theorem low_k {a m m' b b' : Int} (h:0 ≤ a) (hk:m * b ≤ m' * b'):lowS9 a m b ≤ lowS9 a m' b':=by
  unfold lowS9
  have:=Int.mul_le_mul_of_nonneg_left hk h
  omega
theorem up_mono {a c m b:Int} (h:a ≤ c) (hk:0 ≤ m * b):upS9 a m b ≤ upS9 c m b:=by
  unfold upS9
  have:=Int.mul_le_mul_of_nonneg_right h hk
  omega
theorem up_lip {a c m b:Int} (h:a ≤ c) (hk:m * b ≤ 1000000000):upS9 c m b ≤ upS9 a m b + (c - a):=by
  unfold upS9
  have h1:=Int.mul_le_mul_of_nonneg_left hk (show 0 ≤ c - a by omega)
  have e:c * (m * b) = a * (m * b) + (c - a) * (m * b):=by grind
  omega
theorem up_k {a m m' b b' : Int} (h:0 ≤ a) (hk:m * b ≤ m' * b'):upS9 a m b ≤ upS9 a m' b':=by
  unfold upS9
  have:=Int.mul_le_mul_of_nonneg_left hk h
  omega
theorem low_up (a m b:Int):lowS9 a m b ≤ upS9 a m b:=by unfold lowS9 upS9; omega
theorem low_rng {a m b:Int} (h:0 ≤ a) (hk:0 ≤ m * b) (hk2:m * b ≤ 1000000000):0 ≤ lowS9 a m b ∧ lowS9 a m b ≤ a:=by
  have h1:=low_mono h hk
  have h2:=low_lip h hk2
  have e:lowS9 0 m b = 0:=by unfold lowS9; simp
  omega
theorem up_rng {a m b:Int} (h:0 ≤ a) (hk:0 ≤ m * b) (hk2:m * b ≤ 1000000000):0 ≤ upS9 a m b ∧ upS9 a m b ≤ a:=by
  have h1:=up_mono h hk
  have h2:=up_lip h hk2
  have e:upS9 0 m b = 0:=by unfold upS9; simp
  omega
theorem addLow {x y m b m' b' : Int} (h:x ≤ y) (k0:0 ≤ m * b) (k1:m * b ≤ m' * b') (hk:m' * b' ≤ 1000000000):x + lowS9 (absI x) m b ≤ y + lowS9 (absI y) m' b':=by
  have ay:0 ≤ absI y:=by rw [absI_eq]; split <;> omega
  have h2:=low_k ay k1
  rcases Int.le_total (absI x) (absI y) with e | e
  · have:=low_mono e k0
    omega
  · have:=low_lip e (show m * b ≤ 1000000000 by omega)
    have:=absd h
    omega
theorem subUp {x y m b m' b' : Int} (h:x ≤ y) (k0:0 ≤ m * b) (k1:m * b ≤ m' * b') (hk:m' * b' ≤ 1000000000):x - upS9 (absI x) m' b' ≤ y - upS9 (absI y) m b:=by
  have ax:0 ≤ absI x:=by rw [absI_eq]; split <;> omega
  have h2:=up_k ax k1
  rcases Int.le_total (absI y) (absI x) with e | e
  · have:=up_mono e k0
    omega
  · have:=up_lip e (show m * b ≤ 1000000000 by omega)
    have:=absd h
    omega
end
end Go.MP
