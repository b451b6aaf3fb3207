/- What the laws are made with: numbers, copies, equal sites. -/
import Derived.Test.YtdoobpeacbcohaaGreatMoH
namespace Go.MB
open Go Go.Sx Go.Proofs
set_option linter.unusedVariables false
set_option linter.unusedSimpArgs false
noncomputable section
def R64 (n:Int):Prop:=-9223372036854775808 ≤ n ∧ n ≤ 9223372036854775807
theorem tmod_pos {a b:Int} (hb:0 < b):Int.tmod a b = a % b ∨ (Int.tmod a b = a % b - b ∧ a < 0):=by
  rw [Int.tmod_eq_emod]
  split
  · left; omega
  · right
    have:(b.natAbs:Int) = b:=by omega
    exact ⟨by omega,by omega⟩
theorem T_Mod64 (a b:Int):fnTree (P:=P) [] (lpOf []) Tryz.f5 (encL 0 [.val tI,.val tI] (a,b,())) =
  Tree.need (b ≠ (0:Int)) (.cond (decide (Int.tmod a b < (0:Int))) (.leaf (SV.int IntKind.i64 (IntKind.i64.wrap (Int.tmod a b + b)))) (.leaf (SV.int IntKind.i64 (Int.tmod a b)))):=by kernel_rfl
def c_Mod64:PC P:=PC.of (α:=Int × Int × Unit) 5 [.val tI,.val tI] (fun x => x) (fun x => x) (fun _ => rfl)
  (fun x => some (0 < x.2.1 ∧ R64 x.2.1))
  (fun x => .int .i64 (x.1 % x.2.1)) (by kernel_rfl) (by
    rintro ⟨a,b,⟨⟩⟩ hp
    refine fn_of hm (by kernel_rfl) (by kernel_rfl) (T_Mod64 a b) trivial ?_
    obtain ⟨h0,h1,h2⟩ : 0 < b ∧ R64 b:=hp
    have h3:=Int.emod_nonneg a (show b ≠ 0 by omega)
    have h4:=Int.emod_lt_of_pos a h0
    refine ⟨by omega,fun h => ?_,fun h => ?_⟩
    · simp only [decide_eq_true_eq] at h
      show SV.int .i64 _ = SV.int .i64 (a % b)
      rcases tmod_pos (a:=a) h0 with e | ⟨e,_⟩
      · omega
      · rw [e,W_id (by omega) (by omega)]; congr 1; omega
    · simp only [decide_eq_false_iff_not] at h
      show SV.int .i64 _ = SV.int .i64 (a % b)
      rcases tmod_pos (a:=a) h0 with e | ⟨e,_⟩
      · rw [e]
      · omega)
def sameH (a b:Hs):Bool:=decide (a.1 = b.1) && (decide (a.2.1 = b.2.1) && decide (a.2.2 = b.2.2))
def sameB (a b:Site):Bool:=decide (a.1 = b.1) && (decide (a.2.1 = b.2.1) && (decide (a.2.2.1 = b.2.2.1) && (decide (a.2.2.2.1 = b.2.2.2.1) && (decide (a.2.2.2.2.1 = b.2.2.2.2.1) && (sameH a.2.2.2.2.2.1 b.2.2.2.2.2.1 && (decide (a.2.2.2.2.2.2.1 = b.2.2.2.2.2.2.1) && decide (a.2.2.2.2.2.2.2 = b.2.2.2.2.2.2.2)))))))
theorem sameB_iff {a b:Site}:sameB a b = true ↔ a = b:=by
  obtain ⟨a0,a1,a2,a3,a4,⟨a5,a6,a7⟩,a8,a9⟩:=a
  obtain ⟨b0,b1,b2,b3,b4,⟨b5,b6,b7⟩,b8,b9⟩:=b
  unfold sameB sameH
  simp
theorem e4_eq (x y:E4):(x.1 == y.1 && (x.2.1 == y.2.1 && (x.2.2.1 == y.2.2.1 && (x.2.2.2 == y.2.2.2 && true)))) = decide (x = y):=by
  obtain ⟨a,b,c,d⟩:=x
  obtain ⟨e,f,g,h⟩:=y
  rw [Bool.eq_iff_iff]
  simp
theorem pm_eq (x y:Pm):(x.1 == y.1 && (x.2.1 == y.2.1 && (x.2.2.1 == y.2.2.1 && (x.2.2.2 == y.2.2.2 && true)))) = decide (x = y):=by
  obtain ⟨a,b,c,d⟩:=x
  obtain ⟨e,f,g,h⟩:=y
  rw [Bool.eq_iff_iff]
  simp
theorem eqd_step {α:Type} [DecidableEq α] (d:α) {a b:List α} {i:Int} (h0:0 ≤ i) (h:i < a.length) (hl:a.length = b.length):decide (a.drop i.toNat = b.drop i.toNat) = (decide (a.getD i.toNat d = b.getD i.toNat d) && decide (a.drop (i + 1).toNat = b.drop (i + 1).toNat)):=by
  rw [drop_step d h0 h,drop_step d h0 (by omega:i < b.length)]
  rw [Bool.eq_iff_iff]
  simp
theorem eqd_end {α:Type} [DecidableEq α] {a b:List α} {i:Int} (h:¬ i < a.length) (hl:a.length = b.length):decide (a.drop i.toNat = b.drop i.toNat) = true:=by
  rw [drop_end h,drop_end (l:=b) (by omega)]; simp
end
end Go.MB
