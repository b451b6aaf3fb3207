/- RigWorst: readiness is that of all safe states. -/
import Derived.Test.YtmolckndbmjgfaaMrS
namespace Go.MR
open Go Go.Sx Go.Proofs
set_option linter.unusedVariables false
set_option linter.unusedSimpArgs false
noncomputable section
def accW (r : Rig) (g : List (Int × Int)) (l : Nat) (x : Int × Int) (s : List Int) : Int × Int :=
  if safeS r.1 r.2 s = false then x else if IntKind.wrap IntKind.i64 (tickD r.1 r.2 g l s) < 0 then (x.1, IntKind.wrap IntKind.i64 (x.2 + 1)) else (maxI x.1 (IntKind.wrap IntKind.i64 (tickD r.1 r.2 g l s)), x.2)
theorem range_cons (f : Nat → List Int) (n k : Nat) : (List.range' n (k + 1)).map f = f n :: (List.range' (n + 1) k).map f := by
  rw [List.range'_succ, List.map_cons]
theorem rdyR_fold {ps : List Int} {bs : List Ban} (h : RgOk ps bs) (g : List (Int × Int)) {losses : Nat} (hlo : losses ≤ 2) : ∀ (k n : Nat) (x : Int × Int), ((n + k : Nat) : Int) ≤ prodL ps →
    rdyR (cntSf ps bs g) (cntTk ps bs g (losses : Int)) (losses : Int) k (n : Int) x = ((List.range' n k).map fun n : Nat => stS ps n).foldl (accW (ps, bs) g losses) x
  | 0, n, x, _ => rfl
  | k + 1, n, x, hn => by
    obtain ⟨v, e⟩ := h.st (n := (n : Int)) (by omega) (by omega)
    have e1 := (init0_get h g (l := losses) hlo v).2
    have e2 := (cntTk_inv h g hlo).2 losses _ (Nat.le_refl _) v
    unfold tkL at e2
    rw [e] at e1 e2
    rw [rdyR, e1, Int.toNat_natCast losses, e2, range_cons, List.foldl_cons, ← rdyR_fold h g hlo k (n + 1) _ (by omega)]
    rfl
end
end Go.MR
