/- Lengths of vectors, turns, quotients. -/
import Derived.Test.YtdoobpeacbcohaaGreatMwA
namespace Go.MP
open Go Go.Sx Go.Proofs
noncomputable section
def dotZ (v w:V):Int:=v.1 * w.1 + v.2.1 * w.2.1 + v.2.2 * w.2.2
theorem absB {a A:Int} (ha : -A ≤ a ∧ a ≤ A):a.natAbs ≤ A.natAbs:=by omega
theorem mulB {a b A B:Int} (ha : -A ≤ a ∧ a ≤ A) (hb : -B ≤ b ∧ b ≤ B) : -(A * B) ≤ a * b ∧ a * b ≤ A * B:=by
  have h:(a * b).natAbs ≤ (A * B).natAbs:=by
    rw [Int.natAbs_mul,Int.natAbs_mul]
    exact Nat.mul_le_mul (absB ha) (absB hb)
  have h2:0 ≤ A * B:=Int.mul_nonneg (by omega) (by omega)
  omega
theorem inB_iff {v:V} {n:Int}:inB v n = true ↔ (-n ≤ v.1 ∧ v.1 ≤ n) ∧ (-n ≤ v.2.1 ∧ v.2.1 ≤ n) ∧ (-n ≤ v.2.2 ∧ v.2.2 ≤ n):=by
  unfold inB
  simp only [decide_eq_true_eq]
  omega
theorem vdot_eq {v w:V} (hv:inB v 16777216 = true) (hw:inB w 16777216 = true):vdot v w = dotZ v w:=by
  rw [inB_iff] at hv hw
  have h1:=mulB hv.1 hw.1
  have h2:=mulB hv.2.1 hw.2.1
  have h3:=mulB hv.2.2 hw.2.2
  unfold vdot dotZ
  rw [W_id (n:=v.1 * w.1) (by omega) (by omega),W_id (n:=v.2.1 * w.2.1) (by omega) (by omega),W_id (n:=v.2.2 * w.2.2) (by omega) (by omega),W_id (n:=v.1 * w.1 + v.2.1 * w.2.1) (by omega) (by omega),W_id (by omega) (by omega)]
def wholeS (v:V):Int × Bool:=if inB v 16777216 = true then rootS (dotZ v v) else (0,false)
def validS (v:V):Bool:=inB v 1048576 && decide (v.2.2 ≥ 0)
theorem T_whole (x y z:Int):fnTree (P:=P) [c_inside.gc,c_dot.gc,c_root.gc] (lpOf []) Tryz.f71 (encL 0 [.agg tV] ((x,y,z),())) =
  Tree.need ((0:Int) ≤ (16777216:Int) ∧ (16777216:Int) < (2:Int) ^ (62:Nat)) (.cond (!inB (x,y,z) (16777216:Int)) (.leaf (SV.tup [SV.int IntKind.i64 (0:Int),SV.bool false])) (.leaf (SV.tup [SV.int IntKind.i64 (rootS (vdot (x,y,z) (x,y,z))).fst,SV.bool (rootS (vdot (x,y,z) (x,y,z))).snd]))):=by kernel_rfl
def c_whole:PC P:=PC.of (α:=V × Unit) 71 [.agg tV] (fun x => x) (fun x => x) (fun _ => rfl)
  (fun _ => none)
  (fun x => .tup [.int .i64 (wholeS x.1).1,.bool (wholeS x.1).2]) (by kernel_rfl) (by
    rintro ⟨⟨x,y,z⟩,⟨⟩⟩ hp
    refine fn_of hm (by kernel_rfl) (by kernel_rfl) (T_whole x y z) trivial ?_
    refine ⟨by decide,fun h => ?_,fun h => ?_⟩
    · simp only [Bool.not_eq_true'] at h
      show SV.tup _ = _
      simp only [wholeS,h,if_neg (Bool.false_ne_true)]
    · simp only [Bool.not_eq_false'] at h
      show SV.tup _ = _
      simp only [wholeS,h,if_true,vdot_eq h h])
theorem T_valid (x y z:Int):fnTree (P:=P) [c_inside.gc] (lpOf []) Tryz.f70 (encL 0 [.agg tV] ((x,y,z),())) =
  Tree.need ((0:Int) ≤ (1048576:Int) ∧ (1048576:Int) < (2:Int) ^ (62:Nat)) (.cond (inB (x,y,z) (1048576:Int)) (.leaf (SV.bool (decide (z ≥ (0:Int))))) (.leaf (SV.bool false))):=by kernel_rfl
def c_valid:PC P:=PC.of (α:=V × Unit) 70 [.agg tV] (fun x => x) (fun x => x) (fun _ => rfl)
  (fun _ => none)
  (fun x => .bool (validS x.1)) (by kernel_rfl) (by
    rintro ⟨⟨x,y,z⟩,⟨⟩⟩ hp
    refine fn_of hm (by kernel_rfl) (by kernel_rfl) (T_valid x y z) trivial ?_
    refine ⟨by decide,fun h => ?_,fun h => ?_⟩ <;> (show SV.bool _ = _; simp only [validS,h,Bool.true_and,Bool.false_and]))
theorem tmod_pos {a b:Int} (hb:0 < b):Int.tmod a b = a % b ∨ (Int.tmod a b = a % b - b ∧ a < 0):=by
  rw [Int.tmod_eq_emod]
  split
  · left; omega
  · right
    have:(b.natAbs:Int) = b:=by omega
    exact ⟨by omega,by omega⟩
theorem T_Mod64 (a b:Int):fnTree (P:=P) [] (lpOf []) Tryz.f5 (encL 0 [.val tI,.val tI] (a,b,())) =
  Tree.need (b ≠ (0:Int)) (.cond (decide (Int.tmod a b < (0:Int))) (.leaf (SV.int IntKind.i64 (IntKind.i64.wrap (Int.tmod a b + b)))) (.leaf (SV.int IntKind.i64 (Int.tmod a b)))):=by kernel_rfl
def c_Mod64:PC P:=PC.of (α:=Int × Int × Unit) 5 [.val tI,.val tI] (fun x => x) (fun x => x) (fun _ => rfl)
  (fun x => some (0 < x.2.1 ∧ R64 x.2.1))
  (fun x => .int .i64 (x.1 % x.2.1)) (by kernel_rfl) (by
    rintro ⟨a,b,⟨⟩⟩ hp
    refine fn_of hm (by kernel_rfl) (by kernel_rfl) (T_Mod64 a b) trivial ?_
    obtain ⟨h0,h1,h2⟩ : 0 < b ∧ R64 b:=hp
    have h3:=Int.emod_nonneg a (show b ≠ 0 by omega)
    have h4:=Int.emod_lt_of_pos a h0
    refine ⟨by omega,fun h => ?_,fun h => ?_⟩
    · simp only [decide_eq_true_eq] at h
      show SV.int .i64 _ = SV.int .i64 (a % b)
      rcases tmod_pos (a:=a) h0 with e | ⟨e,_⟩
      · omega
      · rw [e,W_id (by omega) (by omega)]; congr 1; omega
    · simp only [decide_eq_false_iff_not] at h
      show SV.int .i64 _ = SV.int .i64 (a % b)
      rcases tmod_pos (a:=a) h0 with e | ⟨e,_⟩
      · rw [e]
      · omega)
end
end Go.MP
