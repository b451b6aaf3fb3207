/- Roots, sides and bends; quotients and drags: numbers alone. -/
import Derived.Test.YtoockflaeaknbaaGreatMvA
namespace Go.MP
open Go Go.Sx Go.Proofs
set_option linter.unusedVariables false
set_option linter.unusedSimpArgs false
noncomputable section
def sqI (n:Int):Int:=rootBits 31 n 0
theorem sqI_ok {n:Int} (h0:0 ≤ n) (h1:n < 4611686018427387904):0 ≤ sqI n ∧ sqI n * sqI n ≤ n ∧ n < (sqI n + 1) * (sqI n + 1) :=
  rootBits_ok 31 n 0 (by omega) (by omega) (by omega)
theorem sqI_lt {n:Int} (h0:0 ≤ n) (h1:n < 4611686018427387904):sqI n < 2147483648:=by
  obtain ⟨a,b,c⟩:=sqI_ok h0 h1
  exact sq_lt (by decide) (by omega)
def rootsS (n:Int):Int × Int:=(sqI n,if sqI n * sqI n = n then sqI n else sqI n + 1)
def sideS (v:V):Int × Int:=if inB v 16777216 = true then rootsS (v.1 * v.1 + v.2.1 * v.2.1) else (0,0)
def bndBits:Nat → Int → Int → Int → Int
  | 0,_,_,r => r
  | k + 1,a,d,r => if (r + 2 ^ k) * (r + 2 ^ k) * d ≤ 2 * a * 1000000000000 then bndBits k a d (r + 2 ^ k) else bndBits k a d r
def bndI (a d:Int):Int:=bndBits 22 a d 0
theorem bndBits_ok:∀ (k:Nat) (a d r:Int),0 ≤ r → r * r * d ≤ 2 * a * 1000000000000 → 2 * a * 1000000000000 < (r + 2 ^ k) * (r + 2 ^ k) * d →
    0 ≤ bndBits k a d r ∧ bndBits k a d r * bndBits k a d r * d ≤ 2 * a * 1000000000000 ∧ 2 * a * 1000000000000 < (bndBits k a d r + 1) * (bndBits k a d r + 1) * d
  | 0,a,d,r,h0,h1,h2 => ⟨h0,h1,h2⟩
  | k + 1,a,d,r,h0,h1,h2 => by
    unfold bndBits
    have hk:(0:Int) < 2 ^ k:=Int.pow_pos (by decide)
    split
    · rename_i h
      refine bndBits_ok k a d _ (by omega) h ?_
      have e:r + 2 ^ k + 2 ^ k = r + 2 ^ (k + 1):=by rw [Int.pow_succ]; omega
      rw [e]; exact h2
    · rename_i h
      exact bndBits_ok k a d r h0 h1 (by omega)
theorem bndI_ok {a d:Int} (h0:0 ≤ a) (h1:a ≤ 2 * d) (hd:0 < d):0 ≤ bndI a d ∧ bndI a d * bndI a d * d ≤ 2 * a * 1000000000000 ∧ 2 * a * 1000000000000 < (bndI a d + 1) * (bndI a d + 1) * d :=
  bndBits_ok 22 a d 0 (by omega) (by omega) (by omega)
theorem sqd_lt {a b d:Int} (h0:0 ≤ b) (hd:0 < d) (h:a * a * d < b * b * d):a < b:=by
  refine sq_lt h0 ?_
  by_cases hab:a * a < b * b
  · exact hab
  · have:=Int.mul_le_mul_of_nonneg_right (show b * b ≤ a * a by omega) (show 0 ≤ d by omega)
    omega
theorem bndI_le {a d:Int} (h0:0 ≤ a) (h1:a ≤ 2 * d) (hd:0 < d):bndI a d ≤ 2000000:=by
  obtain ⟨x,y,z⟩:=bndI_ok h0 h1 hd
  have:bndI a d < 2000001:=sqd_lt (d:=d) (by decide) hd (by omega)
  omega
def bendQ (a d:Int):Int × Int:=(bndI a d,if bndI a d * bndI a d * d = 2 * a * 1000000000000 then bndI a d else bndI a d + 1)
def bendV (v w:V):Int × Int:=if (TurnS v w).2 = 0 then bendQ (TurnS v w).1.1 (TurnS v w).1.2 else (0,0)
theorem floorW_eq {a b:Int} (hb:0 < b) (h1 : -9223372036854775808 < a) (h2:a ≤ 9223372036854775807):floorW a b = a / b:=by
  have h3:=Int.emod_nonneg a (show b ≠ 0 by omega)
  have h4:=Int.emod_lt_of_pos a hb
  have h5:a / b ≤ a ∨ a < 0:=by
    rcases Int.lt_or_le a 0 with h | h
    · exact .inr h
    · exact .inl (Int.ediv_le_self b h)
  have h6:a ≤ a / b ∨ 0 ≤ a:=by
    rcases Int.lt_or_le a 0 with h | h
    · left
      have e:=Int.mul_ediv_add_emod a b
      have hq:a / b < 0:=Int.ediv_neg_of_neg_of_pos h hb
      have h9:b * (a / b + 1) ≤ 1 * (a / b + 1):=Int.mul_le_mul_of_nonpos_right (show 1 ≤ b by omega) (by omega)
      rw [Int.mul_add] at h9
      omega
    · exact .inr h
  have h7:a < 0 → a / b < 0:=fun h => Int.ediv_neg_of_neg_of_pos h hb
  have h8:0 ≤ a → 0 ≤ a / b:=fun h => Int.ediv_nonneg h (by omega)
  have ht:Int.tdiv a b = if a < 0 ∧ a % b ≠ 0 then a / b + 1 else a / b:=by
    rw [Int.tdiv_eq_ediv]
    by_cases ha:0 ≤ a
    · rw [if_pos (.inl ha),if_neg (by omega)]
      simp
    · by_cases hd:b ∣ a
      · have:=Int.emod_eq_zero_of_dvd hd
        rw [if_pos (.inr hd),if_neg (by omega)]
        simp
      · have:a % b ≠ 0:=fun e => hd (Int.dvd_of_emod_eq_zero e)
        rw [if_neg (by omega),if_pos ⟨by omega,this⟩]
        simp [Int.sign_eq_one_of_pos hb]
  have hm:=tmod_pos (a:=a) hb
  have hm2:Int.tmod a b < 0 ↔ (a < 0 ∧ a % b ≠ 0):=by
    rw [Int.tmod_eq_emod]
    by_cases ha:0 ≤ a
    · rw [if_pos (.inl ha)]
      omega
    · by_cases hd:b ∣ a
      · have:=Int.emod_eq_zero_of_dvd hd
        rw [if_pos (.inr hd)]
        omega
      · have:a % b ≠ 0:=fun e => hd (Int.dvd_of_emod_eq_zero e)
        rw [if_neg (by omega)]
        omega
  unfold floorW
  split
  · rename_i h
    rw [hm2] at h
    rw [ht,if_pos h,W_id (n:=a / b + 1) (by omega) (by omega),W_id (by omega) (by omega)]
    omega
  · rename_i h
    rw [hm2] at h
    rw [ht,if_neg h,W_id (by omega) (by omega)]
def upS (a b:Int):Int:=-(-a / b)
def lowS9 (t m b:Int):Int:=t * (m * b) / 1000000000
def upS9 (t m b:Int):Int:=-(-(t * (m * b)) / 1000000000)
theorem upS9_eq (t m b:Int):upS9 t m b = if t * (m * b) % 1000000000 > 0 then t * (m * b) / 1000000000 + 1 else t * (m * b) / 1000000000:=by
  unfold upS9
  generalize t * (m * b) = x
  split <;> omega
theorem split6 (t k:Int):t * k = t / 1000000 * k * 1000000 + t % 1000000 * k:=by
  have e:t = t / 1000000 * 1000000 + t % 1000000:=by omega
  have:(t / 1000000 * 1000000 + t % 1000000) * k = t / 1000000 * k * 1000000 + t % 1000000 * k:=by grind
  rw [← e] at this
  exact this
theorem lowS9_ref (t m b:Int):lowS9 t m b = (t / 1000000 * (m * b) + t % 1000000 * (m * b) / 1000000) / 1000:=by
  unfold lowS9
  rw [split6]
  generalize t / 1000000 * (m * b) = x
  generalize t % 1000000 * (m * b) = y
  omega
theorem upS9_ref (t m b:Int):upS9 t m b = upS (t / 1000000 * (m * b) + upS (t % 1000000 * (m * b)) 1000000) 1000:=by
  unfold upS9 upS
  rw [split6]
  generalize t / 1000000 * (m * b) = x
  generalize t % 1000000 * (m * b) = y
  omega
theorem div_rng {x b M:Int} (hb:0 < b) (hM:0 ≤ M) (h1 : -M ≤ x) (h2:x ≤ M) : -M ≤ x / b ∧ x / b ≤ M:=by
  have h3:M * 1 ≤ M * b:=Int.mul_le_mul_of_nonneg_left (by omega) hM
  refine ⟨Int.le_ediv_of_mul_le hb ?_,Int.ediv_le_of_le_mul hb (by omega)⟩
  rw [Int.neg_mul]; omega
end
end Go.MP
