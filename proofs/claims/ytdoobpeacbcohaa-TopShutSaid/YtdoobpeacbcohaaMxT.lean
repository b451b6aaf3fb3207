/- RigWorst: readiness is that of all safe states. -/
import Derived.Test.YtdoobpeacbcohaaMxS
namespace Go.MR
open Go Go.Sx Go.Proofs
set_option linter.unusedVariables false
set_option linter.unusedSimpArgs false
noncomputable section
def accW (r:Rig) (g:List (Int × Int)) (l:Nat) (x:Int × Int) (s:List Int):Int × Int :=
  if safeS r.1 r.2 s = false then x else if IntKind.i64.wrap (tickD r.1 r.2 g l s) < 0 then (x.1,IntKind.i64.wrap (x.2 + 1)) else (maxI x.1 (IntKind.i64.wrap (tickD r.1 r.2 g l s)),x.2)
theorem tickD_rng (ps:List Int) (bs:List Ban) (g:List (Int × Int)) (l:Nat) (s:List Int) : -1 ≤ tickD ps bs g l s ∧ tickD ps bs g l s < 65:=by
  have:=lst_lt (fun d => reD ps bs g d l s) 65
  unfold tickD
  omega
theorem range_cons (f:Nat → List Int) (n k:Nat):(List.range' n (k + 1)).map f = f n :: (List.range' (n + 1) k).map f:=by
  rw [List.range'_succ,List.map_cons]
theorem rdyR_fold {ps:List Int} {bs:List Ban} (h:RgOk ps bs) (g:List (Int × Int)) {losses:Nat} (hlo:losses ≤ 2):∀ (k n:Nat) (x:Int × Int),((n + k:Nat):Int) ≤ prodL ps →
    rdyR (cntSf ps bs g) (cntTk ps bs g (losses:Int)) (losses:Int) k (n:Int) x = ((List.range' n k).map fun n:Nat => stS ps n).foldl (accW (ps,bs) g losses) x
  | 0,n,x,_ => rfl
  | k + 1,n,x,hn => by
    obtain ⟨v,e⟩:=h.st (n:=(n:Int)) (by omega) (by omega)
    have e1:=(init0_get h g (l:=losses) hlo v).2
    have e2:=(cntTk_inv h g hlo).2 losses _ (Nat.le_refl _) v
    unfold tkL at e2
    rw [e] at e1 e2
    rw [rdyR,e1,Int.toNat_natCast losses,e2,range_cons,List.foldl_cons,← rdyR_fold h g hlo k (n + 1) _ (by omega)]
    rfl
theorem state_of {r:Rig} (hc:checkS r = 0) {s:List Int} (hs:VS r.1 s):stateS r s = if safeS r.1 r.2 s = true then 0 else 12:=by
  unfold stateS safeS
  rw [hc,if_neg (by simp),if_neg (by rw [hs.sl]; simp),if_neg (by rw [hs.si]; simp)]
  by_cases c:ixS (banS (stillS s)) r.2 < 0
  · rw [decide_eq_true c,if_neg (by omega),if_pos rfl]
  · rw [decide_eq_false c,if_pos (by omega),if_neg (by simp)]
theorem ticksS_of {r:Rig} (hc:checkS r = 0) {g:List (Int × Int)} (hg:goalS r g = 0) {losses:Nat} (hlo:losses ≤ 2) {s:List Int} (hs:VS r.1 s) :
    ticksS r s g losses = if safeS r.1 r.2 s = true then (if tickD r.1 r.2 g losses s < 0 then (0,13) else (tickD r.1 r.2 g losses s,0)) else (0,12):=by
  have hw:wi (losses:Int) 0 2 = true:=by unfold wi; rw [decide_eq_true (by omega),decide_eq_true (by omega)]; rfl
  have h1:=state_of hc hs
  have ha:askedS r s g losses = stateS r s:=by
    unfold askedS
    by_cases e:stateS r s = 0
    · rw [e,hg,hw]; rfl
    · rw [if_pos e]
  have ht:=tickD_rng r.1 r.2 g losses s
  unfold ticksS
  rw [ha,h1]
  by_cases c:safeS r.1 r.2 s = true
  · rw [if_pos c,if_pos c,if_neg (by simp)]
    have:askedS r s g losses = 0:=by rw [ha,h1,if_pos c]
    rw [tickN_eq this,Int.toNat_natCast]
    split
    · rfl
    · rw [W_id (by omega) (by omega)]
  · rw [if_neg c,if_neg c,if_pos (by simp)]
end
end Go.MR
