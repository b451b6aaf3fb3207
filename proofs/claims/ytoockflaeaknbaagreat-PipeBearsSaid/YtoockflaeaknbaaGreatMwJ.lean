/- Fractions compared, the greatest turn of a path; the law PathTurns. -/
import Derived.Test.YtoockflaeaknbaaGreatMwI
import Derived.Test.YtoockflaeaknbaaGreatMwF
namespace Go.MP
open Go Go.Sx Go.Proofs
set_option linter.unusedVariables false
set_option linter.unusedSimpArgs false
noncomputable section
def L_gcd:Lay:={ slots:=[(0,.val tI),(1,.val tI)] }
def L_gcd_0:Lay:={ slots:=[(0,.val tI)] }
def X_gcd:Exit → St → Option Lay
  | .exit 0,_ => some L_gcd_0
  | _,_ => none
abbrev C_gcd:Code:=loopC (bodyOf Tryz.f118) 0
theorem B_gcd (a b:Int):loopBodyA (P:=P) [] (lpOf []) [] 12 noU (inner C_gcd) L_gcd X_gcd (α:=Int × Int × Unit) (fun x => x) (fun x => x) (a,b,()) =
  Tree.cond (decide (b > (0:Int))) (.need (b ≠ (0:Int)) (.leaf (Sum.inl (b,Int.tmod a b,())))) (.leaf (Sum.inr (Exit.exit (0:Nat),Lay.st L_gcd_0 noU (a,())))):=by kernel_rfl
def inv_gcd:Int × Int × Unit → Prop:=fun (a,b,_) => 0 ≤ a ∧ 0 ≤ b
def O_gcd:Int × Int × Unit → Tree (Exit × St):=fun (a,b,_) => .leaf (.exit 0,L_gcd_0.st noU (gcdI a b,()))
def R_gcd:LRun:=runOf 12 L_gcd (fun x => x) (inv_gcd) (O_gcd)
theorem K_gcd:LoopOk P [] 12 none noU C_gcd (R_gcd):=by
  refine loop_of hm (cx:=[]) [] (xl:=X_gcd) (α:=Int × Int × Unit) (fun x => x) (fun (a,b,_) => b.toNat) (fun _ => rfl) (by kernel_rfl) (by kernel_rfl) ?_ (by kernel_rfl) trivial ?_
  · intro e S L' h
    unfold X_gcd at h
    split at h <;> first | (cases h; done) | (cases h; kernel_rfl) | (rcases bif_some h with h | h <;> cases h <;> kernel_rfl)
  · rintro ⟨a,b,⟨⟩⟩ hinv Q hQ
    refine hold_of_eq (B_gcd a b) ?_
    obtain ⟨h0,h1⟩:=hinv
    refine ⟨fun h => ?_,fun h => ?_⟩
    · simp only [decide_eq_true_eq] at h
      refine ⟨by omega,⟨⟨by omega,Int.tmod_nonneg b h0⟩,?_⟩,?_⟩
      · have h4:Int.tmod a b < b:=Int.tmod_lt_of_pos a h
        show Int.toNat (Int.tmod a b) < Int.toNat b
        omega
      · show Tree.holds Q (Tree.leaf (.exit 0,L_gcd_0.st noU (gcdI b (Int.tmod a b),())))
        rw [gcdI_step h0 h]; exact hQ
    · simp only [decide_eq_false_iff_not] at h
      have hb:b = 0:=by omega
      have e:a = gcdI a b:=by
        rw [hb]
        unfold gcdI
        simp only [Int.toNat_zero,Nat.gcd_zero_right]
        omega
      rw [e]
      unfold O_gcd at hQ
      dsimp only at hQ
      rw [← e] at hQ ⊢
      exact hQ
theorem T_gcd (a b:Int):fnTree (P:=P) [] (lpOf [(0,R_gcd)]) Tryz.f118 (encL 0 [.val tI,.val tI] (a,b,())) =
  Tree.need (inv_gcd (a,b,())) (.leaf (SV.int IntKind.i64 (gcdI a b))):=by kernel_rfl
def c_gcd:PC P:=PC.of (α:=Int × Int × Unit) 118 [.val tI,.val tI] (fun x => x) (fun x => x) (fun _ => rfl)
  (fun x => some (0 ≤ x.1 ∧ 0 ≤ x.2.1))
  (fun x => .int .i64 (gcdI x.1 x.2.1)) (by kernel_rfl) (by
    rintro ⟨a,b,⟨⟩⟩ hp
    refine fn_of hm (by kernel_rfl) (by kernel_rfl) (T_gcd a b) ⟨K_gcd,trivial⟩ ?_
    exact ⟨hp,rfl⟩)
theorem long_leg2 (v:V):(longS v).2 = (legS v).2 ∧ ((legS v).2 = true → (longS v).1 = (wholeS v).1):=by
  unfold longS
  split
  · exact ⟨rfl,fun _ => rfl⟩
  · rename_i hi
    have:(legS v).2 = false:=by
      rw [Bool.eq_false_iff]
      intro h
      obtain ⟨h1,h2,h3⟩:=legS_true h
      exact hi (inB_of_whole h1 h3)
    rw [this]
    exact ⟨rfl,fun h => by cases h⟩
theorem T_rTurn (x y z a b c:Int):fnTree (P:=P) [c_rlong.gc,c_rDot.gc,c_gcd.gc] (lpOf []) Tryz.f94 (encL 0 [.agg tV,.agg tV] ((x,y,z),(a,b,c),())) =
  Tree.cond (!(longS (x,y,z)).snd) (.leaf (SV.tup [SV.agg [SV.int IntKind.i64 (0:Int),SV.int IntKind.i64 (0:Int)],SV.int IntKind.i64 (3:Int)])) (.cond (!(longS (a,b,c)).snd) (.leaf (SV.tup [SV.agg [SV.int IntKind.i64 (0:Int),SV.int IntKind.i64 (0:Int)],SV.int IntKind.i64 (3:Int)])) (.need ((0:Int) ≤ IntKind.i64.wrap (IntKind.i64.wrap ((longS (x,y,z)).fst * (longS (a,b,c)).fst) - vdot (x,y,z) (a,b,c)) ∧ (0:Int) ≤ IntKind.i64.wrap ((longS (x,y,z)).fst * (longS (a,b,c)).fst)) (.need (gcdI (IntKind.i64.wrap (IntKind.i64.wrap ((longS (x,y,z)).fst * (longS (a,b,c)).fst) - vdot (x,y,z) (a,b,c))) (IntKind.i64.wrap ((longS (x,y,z)).fst * (longS (a,b,c)).fst)) ≠ (0:Int)) (.need (gcdI (IntKind.i64.wrap (IntKind.i64.wrap ((longS (x,y,z)).fst * (longS (a,b,c)).fst) - vdot (x,y,z) (a,b,c))) (IntKind.i64.wrap ((longS (x,y,z)).fst * (longS (a,b,c)).fst)) ≠ (0:Int)) (.leaf (SV.tup [SV.agg [SV.int IntKind.i64 (IntKind.i64.wrap (Int.tdiv (IntKind.i64.wrap (IntKind.i64.wrap ((longS (x,y,z)).fst * (longS (a,b,c)).fst) - vdot (x,y,z) (a,b,c))) (gcdI (IntKind.i64.wrap (IntKind.i64.wrap ((longS (x,y,z)).fst * (longS (a,b,c)).fst) - vdot (x,y,z) (a,b,c))) (IntKind.i64.wrap ((longS (x,y,z)).fst * (longS (a,b,c)).fst))))),SV.int IntKind.i64 (IntKind.i64.wrap (Int.tdiv (IntKind.i64.wrap ((longS (x,y,z)).fst * (longS (a,b,c)).fst)) (gcdI (IntKind.i64.wrap (IntKind.i64.wrap ((longS (x,y,z)).fst * (longS (a,b,c)).fst) - vdot (x,y,z) (a,b,c))) (IntKind.i64.wrap ((longS (x,y,z)).fst * (longS (a,b,c)).fst)))))],SV.int IntKind.i64 (0:Int)])))))):=by kernel_rfl
def c_rTurn:PC P:=PC.of (α:=V × V × Unit) 94 [.agg tV,.agg tV] (fun x => x) (fun x => x) (fun _ => rfl)
  (fun _ => none)
  (fun x => .tup [.agg [.int .i64 (TurnS x.1 x.2.1).1.1,.int .i64 (TurnS x.1 x.2.1).1.2],.int .i64 (TurnS x.1 x.2.1).2]) (by kernel_rfl) (by
    rintro ⟨⟨x,y,z⟩,⟨a,b,c⟩,⟨⟩⟩ hp
    refine fn_of hm (by kernel_rfl) (by kernel_rfl) (T_rTurn x y z a b c) trivial ?_
    show Tree.holds (fun s => s = SV.tup [.agg [.int .i64 (TurnS (x,y,z) (a,b,c)).1.1,.int .i64 (TurnS (x,y,z) (a,b,c)).1.2],.int .i64 (TurnS (x,y,z) (a,b,c)).2]) _
    unfold TurnS
    obtain ⟨l1,l2⟩:=long_leg2 (x,y,z)
    obtain ⟨m1,m2⟩:=long_leg2 (a,b,c)
    rw [l1,m1]
    refine ⟨fun h => ?_,fun h => ⟨fun h2 => ?_,fun h2 => ?_⟩⟩
    · simp only [Bool.not_eq_true'] at h
      rw [h,if_neg (by simp)]
      exact rfl
    · simp only [Bool.not_eq_true'] at h2
      rw [h2,if_neg (by simp)]
      exact rfl
    · simp only [Bool.not_eq_false'] at h h2
      obtain ⟨t1,t2,t3,t4,t5⟩:=turn_pre h h2
      rw [l2 h,m2 h2,t1,W_id (n:=(wholeS (x,y,z)).1 * (wholeS (a,b,c)).1) (by omega) (by omega),W_id (n:=(wholeS (x,y,z)).1 * (wholeS (a,b,c)).1 - dotZ (x,y,z) (a,b,c)) (by omega) (by omega),if_pos ⟨h,h2⟩]
      unfold turnS
      generalize (wholeS (x,y,z)).1 * (wholeS (a,b,c)).1 - dotZ (x,y,z) (a,b,c) = A at *
      generalize (wholeS (x,y,z)).1 * (wholeS (a,b,c)).1 = B at *
      have hg:=gcdI_pos (a:=A) t2
      have e1:=Int.tdiv_eq_ediv_of_nonneg t4 (b:=gcdI A B)
      have e2:=Int.tdiv_eq_ediv_of_nonneg (show 0 ≤ B by omega) (b:=gcdI A B)
      have b1:0 ≤ A / gcdI A B:=Int.ediv_nonneg t4 (by omega)
      have b2:0 ≤ B / gcdI A B:=Int.ediv_nonneg (by omega) (by omega)
      have b3:=Int.ediv_le_self (gcdI A B) t4
      have b4:=Int.ediv_le_self (gcdI A B) (show 0 ≤ B by omega)
      refine ⟨⟨t4,by omega⟩,by omega,by omega,?_⟩
      show SV.tup [.agg [.int .i64 _,.int .i64 _],.int .i64 0] = SV.tup [.agg [.int .i64 (A / gcdI A B),.int .i64 (B / gcdI A B)],.int .i64 0]
      rw [e1,e2,W_id (n:=A / gcdI A B) (by omega) (by omega),W_id (n:=B / gcdI A B) (by omega) (by omega)])
end
end Go.MP
