/- Cuts: the reference's. -/
import Derived.Test.YtfhomgggbhjglaaGreatMdC
import Derived.Test.YtfhomgggbhjglaaGreatMcE
namespace Go.MB
open Go Go.Sx Go.Proofs
set_option linter.unusedVariables false
set_option linter.unusedSimpArgs false
noncomputable section
theorem shlL {i:Int} (h0:0 ≤ i) (h1:i ≤ 10):shlI .i64 1 i = ((2 ^ i.toNat:Nat):Int):=by
  show IntKind.wrap .i64 (1 * 2 ^ min i.toNat 64) = _
  rw [Int.one_mul,show min i.toNat 64 = i.toNat by omega]
  have h:(2:Nat) ^ i.toNat ≤ 2 ^ 10:=Nat.pow_le_pow_right (by decide) (by omega)
  have e:((2:Int) ^ i.toNat) = ((2 ^ i.toNat:Nat):Int):=by simp
  rw [e]
  generalize (2:Nat) ^ i.toNat = z at *
  rw [W_id (by omega) (by omega)]
theorem pow_le {n:Nat} (h:n ≤ 10):2 ^ n ≤ 1024:=Nat.le_trans (Nat.pow_le_pow_right (by decide) h) (by decide)
end
end Go.MB
