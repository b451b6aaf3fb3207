/- The chapter's examples; directions made of numbers. -/
import Derived.Test.YtoockflaeaknbaaGreatMwD
namespace Go.MP
open Go Go.Sx Go.Proofs
set_option linter.unusedVariables false
set_option linter.unusedSimpArgs false
noncomputable section
def dirT:List V:=[(0,0,1),(0,3,4),(3,0,4),(1,2,2),(2,3,6),(1,4,8),(4,4,7),(2,6,9),(0,5,12),(0,7,24),(6,6,7),(1,0,0),(0,4,-3)]
def dirS (n:Int):V :=
  if IntKind.i64.wrap (Int.tdiv (n % 52) 13) = 1 then (IntKind.i64.wrap (0 - (dirT.getD (n % 13).toNat (0,0,0)).1),(dirT.getD (n % 13).toNat (0,0,0)).2.1,(dirT.getD (n % 13).toNat (0,0,0)).2.2)
  else if IntKind.i64.wrap (Int.tdiv (n % 52) 13) = 2 then ((dirT.getD (n % 13).toNat (0,0,0)).1,IntKind.i64.wrap (0 - (dirT.getD (n % 13).toNat (0,0,0)).2.1),(dirT.getD (n % 13).toNat (0,0,0)).2.2)
  else if IntKind.i64.wrap (Int.tdiv (n % 52) 13) = 3 then ((dirT.getD (n % 13).toNat (0,0,0)).2.1,(dirT.getD (n % 13).toNat (0,0,0)).1,(dirT.getD (n % 13).toNat (0,0,0)).2.2)
  else dirT.getD (n % 13).toNat (0,0,0)
theorem T_Dir (n:Int):fnTree (P:=P) [c_Mod.gc] (lpOf []) Tryz.f29 (encL 0 [.val tI] (n,())) =
  Tree.need ((0:Int) < (13:Int) ∧ R64 (13:Int)) (.need ((0:Int) ≤ n % (13:Int) ∧ n % (13:Int) < (↑(List.length [((0:Int),(0:Int),(1:Int)),((0:Int),(3:Int),(4:Int)),((3:Int),(0:Int),(4:Int)),((1:Int),(2:Int),(2:Int)),((2:Int),(3:Int),(6:Int)),((1:Int),(4:Int),(8:Int)),((4:Int),(4:Int),(7:Int)),((2:Int),(6:Int),(9:Int)),((0:Int),(5:Int),(12:Int)),((0:Int),(7:Int),(24:Int)),((6:Int),(6:Int),(7:Int)),((1:Int),(0:Int),(0:Int)),((0:Int),(4:Int),(-3:Int))]):Int)) (.need (Int.toNat (n % (13:Int)) < List.length [((0:Int),(0:Int),(1:Int)),((0:Int),(3:Int),(4:Int)),((3:Int),(0:Int),(4:Int)),((1:Int),(2:Int),(2:Int)),((2:Int),(3:Int),(6:Int)),((1:Int),(4:Int),(8:Int)),((4:Int),(4:Int),(7:Int)),((2:Int),(6:Int),(9:Int)),((0:Int),(5:Int),(12:Int)),((0:Int),(7:Int),(24:Int)),((6:Int),(6:Int),(7:Int)),((1:Int),(0:Int),(0:Int)),((0:Int),(4:Int),(-3:Int))]) (.need ((0:Int) < (52:Int) ∧ R64 (52:Int)) (.need ((13:Int) ≠ (0:Int)) (.cond (IntKind.i64.wrap (Int.tdiv (n % (52:Int)) (13:Int)) == (1:Int)) (.leaf (SV.agg [SV.int IntKind.i64 (IntKind.i64.wrap ((0:Int) - (List.getD [((0:Int),(0:Int),(1:Int)),((0:Int),(3:Int),(4:Int)),((3:Int),(0:Int),(4:Int)),((1:Int),(2:Int),(2:Int)),((2:Int),(3:Int),(6:Int)),((1:Int),(4:Int),(8:Int)),((4:Int),(4:Int),(7:Int)),((2:Int),(6:Int),(9:Int)),((0:Int),(5:Int),(12:Int)),((0:Int),(7:Int),(24:Int)),((6:Int),(6:Int),(7:Int)),((1:Int),(0:Int),(0:Int)),((0:Int),(4:Int),(-3:Int))] (Int.toNat (n % (13:Int))) (0,0,0)).fst)),SV.int IntKind.i64 (List.getD [((0:Int),(0:Int),(1:Int)),((0:Int),(3:Int),(4:Int)),((3:Int),(0:Int),(4:Int)),((1:Int),(2:Int),(2:Int)),((2:Int),(3:Int),(6:Int)),((1:Int),(4:Int),(8:Int)),((4:Int),(4:Int),(7:Int)),((2:Int),(6:Int),(9:Int)),((0:Int),(5:Int),(12:Int)),((0:Int),(7:Int),(24:Int)),((6:Int),(6:Int),(7:Int)),((1:Int),(0:Int),(0:Int)),((0:Int),(4:Int),(-3:Int))] (Int.toNat (n % (13:Int))) (0,0,0)).snd.fst,SV.int IntKind.i64 (List.getD [((0:Int),(0:Int),(1:Int)),((0:Int),(3:Int),(4:Int)),((3:Int),(0:Int),(4:Int)),((1:Int),(2:Int),(2:Int)),((2:Int),(3:Int),(6:Int)),((1:Int),(4:Int),(8:Int)),((4:Int),(4:Int),(7:Int)),((2:Int),(6:Int),(9:Int)),((0:Int),(5:Int),(12:Int)),((0:Int),(7:Int),(24:Int)),((6:Int),(6:Int),(7:Int)),((1:Int),(0:Int),(0:Int)),((0:Int),(4:Int),(-3:Int))] (Int.toNat (n % (13:Int))) (0,0,0)).snd.snd])) (.cond (IntKind.i64.wrap (Int.tdiv (n % (52:Int)) (13:Int)) == (2:Int)) (.leaf (SV.agg [SV.int IntKind.i64 (List.getD [((0:Int),(0:Int),(1:Int)),((0:Int),(3:Int),(4:Int)),((3:Int),(0:Int),(4:Int)),((1:Int),(2:Int),(2:Int)),((2:Int),(3:Int),(6:Int)),((1:Int),(4:Int),(8:Int)),((4:Int),(4:Int),(7:Int)),((2:Int),(6:Int),(9:Int)),((0:Int),(5:Int),(12:Int)),((0:Int),(7:Int),(24:Int)),((6:Int),(6:Int),(7:Int)),((1:Int),(0:Int),(0:Int)),((0:Int),(4:Int),(-3:Int))] (Int.toNat (n % (13:Int))) (0,0,0)).fst,SV.int IntKind.i64 (IntKind.i64.wrap ((0:Int) - (List.getD [((0:Int),(0:Int),(1:Int)),((0:Int),(3:Int),(4:Int)),((3:Int),(0:Int),(4:Int)),((1:Int),(2:Int),(2:Int)),((2:Int),(3:Int),(6:Int)),((1:Int),(4:Int),(8:Int)),((4:Int),(4:Int),(7:Int)),((2:Int),(6:Int),(9:Int)),((0:Int),(5:Int),(12:Int)),((0:Int),(7:Int),(24:Int)),((6:Int),(6:Int),(7:Int)),((1:Int),(0:Int),(0:Int)),((0:Int),(4:Int),(-3:Int))] (Int.toNat (n % (13:Int))) (0,0,0)).snd.fst)),SV.int IntKind.i64 (List.getD [((0:Int),(0:Int),(1:Int)),((0:Int),(3:Int),(4:Int)),((3:Int),(0:Int),(4:Int)),((1:Int),(2:Int),(2:Int)),((2:Int),(3:Int),(6:Int)),((1:Int),(4:Int),(8:Int)),((4:Int),(4:Int),(7:Int)),((2:Int),(6:Int),(9:Int)),((0:Int),(5:Int),(12:Int)),((0:Int),(7:Int),(24:Int)),((6:Int),(6:Int),(7:Int)),((1:Int),(0:Int),(0:Int)),((0:Int),(4:Int),(-3:Int))] (Int.toNat (n % (13:Int))) (0,0,0)).snd.snd])) (.cond (IntKind.i64.wrap (Int.tdiv (n % (52:Int)) (13:Int)) == (3:Int)) (.leaf (SV.agg [SV.int IntKind.i64 (List.getD [((0:Int),(0:Int),(1:Int)),((0:Int),(3:Int),(4:Int)),((3:Int),(0:Int),(4:Int)),((1:Int),(2:Int),(2:Int)),((2:Int),(3:Int),(6:Int)),((1:Int),(4:Int),(8:Int)),((4:Int),(4:Int),(7:Int)),((2:Int),(6:Int),(9:Int)),((0:Int),(5:Int),(12:Int)),((0:Int),(7:Int),(24:Int)),((6:Int),(6:Int),(7:Int)),((1:Int),(0:Int),(0:Int)),((0:Int),(4:Int),(-3:Int))] (Int.toNat (n % (13:Int))) (0,0,0)).snd.fst,SV.int IntKind.i64 (List.getD [((0:Int),(0:Int),(1:Int)),((0:Int),(3:Int),(4:Int)),((3:Int),(0:Int),(4:Int)),((1:Int),(2:Int),(2:Int)),((2:Int),(3:Int),(6:Int)),((1:Int),(4:Int),(8:Int)),((4:Int),(4:Int),(7:Int)),((2:Int),(6:Int),(9:Int)),((0:Int),(5:Int),(12:Int)),((0:Int),(7:Int),(24:Int)),((6:Int),(6:Int),(7:Int)),((1:Int),(0:Int),(0:Int)),((0:Int),(4:Int),(-3:Int))] (Int.toNat (n % (13:Int))) (0,0,0)).fst,SV.int IntKind.i64 (List.getD [((0:Int),(0:Int),(1:Int)),((0:Int),(3:Int),(4:Int)),((3:Int),(0:Int),(4:Int)),((1:Int),(2:Int),(2:Int)),((2:Int),(3:Int),(6:Int)),((1:Int),(4:Int),(8:Int)),((4:Int),(4:Int),(7:Int)),((2:Int),(6:Int),(9:Int)),((0:Int),(5:Int),(12:Int)),((0:Int),(7:Int),(24:Int)),((6:Int),(6:Int),(7:Int)),((1:Int),(0:Int),(0:Int)),((0:Int),(4:Int),(-3:Int))] (Int.toNat (n % (13:Int))) (0,0,0)).snd.snd])) (.leaf (SV.agg [SV.int IntKind.i64 (List.getD [((0:Int),(0:Int),(1:Int)),((0:Int),(3:Int),(4:Int)),((3:Int),(0:Int),(4:Int)),((1:Int),(2:Int),(2:Int)),((2:Int),(3:Int),(6:Int)),((1:Int),(4:Int),(8:Int)),((4:Int),(4:Int),(7:Int)),((2:Int),(6:Int),(9:Int)),((0:Int),(5:Int),(12:Int)),((0:Int),(7:Int),(24:Int)),((6:Int),(6:Int),(7:Int)),((1:Int),(0:Int),(0:Int)),((0:Int),(4:Int),(-3:Int))] (Int.toNat (n % (13:Int))) (0,0,0)).fst,SV.int IntKind.i64 (List.getD [((0:Int),(0:Int),(1:Int)),((0:Int),(3:Int),(4:Int)),((3:Int),(0:Int),(4:Int)),((1:Int),(2:Int),(2:Int)),((2:Int),(3:Int),(6:Int)),((1:Int),(4:Int),(8:Int)),((4:Int),(4:Int),(7:Int)),((2:Int),(6:Int),(9:Int)),((0:Int),(5:Int),(12:Int)),((0:Int),(7:Int),(24:Int)),((6:Int),(6:Int),(7:Int)),((1:Int),(0:Int),(0:Int)),((0:Int),(4:Int),(-3:Int))] (Int.toNat (n % (13:Int))) (0,0,0)).snd.fst,SV.int IntKind.i64 (List.getD [((0:Int),(0:Int),(1:Int)),((0:Int),(3:Int),(4:Int)),((3:Int),(0:Int),(4:Int)),((1:Int),(2:Int),(2:Int)),((2:Int),(3:Int),(6:Int)),((1:Int),(4:Int),(8:Int)),((4:Int),(4:Int),(7:Int)),((2:Int),(6:Int),(9:Int)),((0:Int),(5:Int),(12:Int)),((0:Int),(7:Int),(24:Int)),((6:Int),(6:Int),(7:Int)),((1:Int),(0:Int),(0:Int)),((0:Int),(4:Int),(-3:Int))] (Int.toNat (n % (13:Int))) (0,0,0)).snd.snd]))))))))):=by kernel_rfl
def c_Dir:PC P:=PC.of (α:=Int × Unit) 29 [.val tI] (fun x => x) (fun x => x) (fun _ => rfl)
  (fun _ => none)
  (fun x => svV (dirS x.1)) (by kernel_rfl) (by
    rintro ⟨n,⟨⟩⟩ hp
    refine fn_of hm (by kernel_rfl) (by kernel_rfl) (T_Dir n) trivial ?_
    have h1:=Int.emod_nonneg n (show (13:Int) ≠ 0 by decide)
    have h2:=Int.emod_lt_of_pos n (show (0:Int) < 13 by decide)
    show Tree.holds (fun s => s = svV (dirS n)) _
    refine ⟨⟨by decide,by decide,by decide⟩,⟨h1,h2⟩,?_,⟨by decide,by decide,by decide⟩,by decide,?_⟩
    · show (n % 13).toNat < 13
      omega
    unfold dirS
    refine ⟨fun h3 => ?_,fun h3 => ⟨fun h4 => ?_,fun h4 => ⟨fun h5 => ?_,fun h5 => ?_⟩⟩⟩
    all_goals simp only [beq_iff_eq,beq_eq_false_iff_ne,ne_eq] at *
    · rw [if_pos h3]; exact rfl
    · rw [if_neg h3,if_pos h4]; exact rfl
    · rw [if_neg h3,if_neg h4,if_pos h5]; exact rfl
    · rw [if_neg h3,if_neg h4,if_neg h5]; exact rfl)
theorem dirS_mod (n:Int):dirS (n % 52) = dirS n:=by
  unfold dirS
  rw [show n % 52 % 13 = n % 13 by omega,show n % 52 % 52 = n % 52 by omega]
def dirOk (v:V):Bool:=(wholeS v).2 && decide (1 ≤ (wholeS v).1 ∧ (wholeS v).1 ≤ 25)
theorem dir_all:∀ k:Fin 52,dirOk (dirS (k.val:Int)) = true:=by decide +kernel
theorem dirS_ok (n:Int):(wholeS (dirS n)).2 = true ∧ 1 ≤ (wholeS (dirS n)).1 ∧ (wholeS (dirS n)).1 ≤ 25:=by
  have h1:=Int.emod_nonneg n (show (52:Int) ≠ 0 by decide)
  have h2:=Int.emod_lt_of_pos n (show (0:Int) < 52 by decide)
  have h:=dir_all ⟨(n % 52).toNat,by omega⟩
  have e:(((n % 52).toNat:Nat):Int) = n % 52:=by omega
  dsimp only at h
  rw [e,dirS_mod] at h
  simpa [dirOk] using h
end
end Go.MP
