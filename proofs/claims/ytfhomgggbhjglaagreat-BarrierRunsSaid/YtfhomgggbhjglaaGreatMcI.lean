/- BarrierRuns. -/
import Derived.Test.YtfhomgggbhjglaaGreatMcH
import Derived.Test.YtfhomgggbhjglaaGreatMuK
namespace Go.MB
open Go Go.Sx Go.Proofs
set_option linter.unusedVariables false
set_option linter.unusedSimpArgs false
noncomputable section
theorem zSite_ok:sOk zSite:=⟨⟨by decide,by decide,fun q hq => by cases hq⟩,by decide⟩
theorem runS_sOk (s:Site) (l:List Entry):sOk (runS s l).1:=by
 unfold runS
 split
 ·exact zSite_ok
 ·rename_i c
  split
  ·exact zSite_ok
  ·exact (chkS_site (runG_ok l s 0 (Decidable.not_not.1 c))).sOk
def L_bru0:Lay:={ slots:=[(9,.row 28 (.pair tI (.pair tI (.pair tI (.pair tI (.pair tI (.pair (.pair (.sl (.pair tI tV)) (.pair (.sl tIs) tI)) (.pair (.sl (.pair tI (.pair tI (.pair tI .bool)))) tI)))))))),(10,.row 39 (.sl (.pair tI (.pair tI (.pair tI tV))))),(11,.val tI)] }
def L_bru0_0:Lay:={ slots:=[(6,.val .bool)] }
def L_bru0_1:Lay:={ slots:=[] }
def X_bru0:Exit → St → Option Lay
 | .ret,_ => some L_bru0_0
 | .exit 0,_ => some L_bru0_1
 | _,_ => none
abbrev C_bru0:Code:=loopC (bodyOf Tryz.f4) 0
theorem B_bru0 (ss:List (Int×(Int×(Int×(Int×(Int×((List (Int×V)×(List (List Int)×Int))×(List (Int×(Int×(Int×Bool)))×Int)))))))) (ls:List (List (Int×(Int×(Int×V))))) (j:Int):loopBodyA (P:=P) [c_rCopy.gc,c_OwnEntries.gc,c_Run.gc,c_rRun.gc,c_rSame.gc,c_SameEntries.gc] (lpOf []) [] 107 noU (inner C_bru0) L_bru0 X_bru0 (α:=List (Int×(Int×(Int×(Int×(Int×((List (Int×V)×(List (List Int)×Int))×(List (Int×(Int×(Int×Bool)))×Int)))))))×List (List (Int×(Int×(Int×V))))×Int×Unit) (fun x => x) (fun x => x) (ss,ls,j,()) =
 Tree.cond (decide (j < (2:Int))) (.need ((0:Int) ≤ j∧j < (ss.length:Int)) (.need (Int.toNat j < ss.length) (.need (sOk (ss.getD j.toNat ((0:Int),(0:Int),(0:Int),(0:Int),(0:Int),([],[],(0:Int)),[],(0:Int)))) (.need ((0:Int) ≤ j∧j < (ls.length:Int)) (.need (Int.toNat j < ls.length) (.need (List.length (ls.getD j.toNat []) ≤ (100000:Nat)) (.need (sOk (ss.getD j.toNat ((0:Int),(0:Int),(0:Int),(0:Int),(0:Int),([],[],(0:Int)),[],(0:Int)))) (.need ((0:Int) ≤ j∧j < (ss.length:Int)) (.need (Int.toNat j < ss.length) (.need ((0:Int) ≤ j∧j < (ls.length:Int)) (.need (Int.toNat j < ls.length) (.need (sOk (ss.getD j.toNat ((0:Int),(0:Int),(0:Int),(0:Int),(0:Int),([],[],(0:Int)),[],(0:Int)))) (.need (sOk (runS (ss.getD j.toNat ((0:Int),(0:Int),(0:Int),(0:Int),(0:Int),([],[],(0:Int)),[],(0:Int))) (ls.getD j.toNat [])).1∧sOk (runS (ss.getD j.toNat ((0:Int),(0:Int),(0:Int),(0:Int),(0:Int),([],[],(0:Int)),[],(0:Int))) (ls.getD j.toNat [])).1) (.cond (!sameB (runS (ss.getD j.toNat ((0:Int),(0:Int),(0:Int),(0:Int),(0:Int),([],[],(0:Int)),[],(0:Int))) (ls.getD j.toNat [])).1 (runS (ss.getD j.toNat ((0:Int),(0:Int),(0:Int),(0:Int),(0:Int),([],[],(0:Int)),[],(0:Int))) (ls.getD j.toNat [])).1) (.leaf (Sum.inr (Exit.ret,Lay.st L_bru0_0 noU (false,())))) (.cond ((runS (ss.getD j.toNat ((0:Int),(0:Int),(0:Int),(0:Int),(0:Int),([],[],(0:Int)),[],(0:Int))) (ls.getD j.toNat [])).2.1 != (runS (ss.getD j.toNat ((0:Int),(0:Int),(0:Int),(0:Int),(0:Int),([],[],(0:Int)),[],(0:Int))) (ls.getD j.toNat [])).2.1) (.leaf (Sum.inr (Exit.ret,Lay.st L_bru0_0 noU (false,())))) (.cond ((runS (ss.getD j.toNat ((0:Int),(0:Int),(0:Int),(0:Int),(0:Int),([],[],(0:Int)),[],(0:Int))) (ls.getD j.toNat [])).2.2 != (runS (ss.getD j.toNat ((0:Int),(0:Int),(0:Int),(0:Int),(0:Int),([],[],(0:Int)),[],(0:Int))) (ls.getD j.toNat [])).2.2) (.leaf (Sum.inr (Exit.ret,Lay.st L_bru0_0 noU (false,())))) (.need ((0:Int) ≤ j∧j < (ss.length:Int)) (.need (Int.toNat j < ss.length) (.need (sOk (ss.getD j.toNat ((0:Int),(0:Int),(0:Int),(0:Int),(0:Int),([],[],(0:Int)),[],(0:Int)))∧sOk (ss.getD j.toNat ((0:Int),(0:Int),(0:Int),(0:Int),(0:Int),([],[],(0:Int)),[],(0:Int)))) (.cond (!sameB (ss.getD j.toNat ((0:Int),(0:Int),(0:Int),(0:Int),(0:Int),([],[],(0:Int)),[],(0:Int))) (ss.getD j.toNat ((0:Int),(0:Int),(0:Int),(0:Int),(0:Int),([],[],(0:Int)),[],(0:Int)))) (.leaf (Sum.inr (Exit.ret,Lay.st L_bru0_0 noU (false,())))) (.need ((0:Int) ≤ j∧j < (ls.length:Int)) (.need (Int.toNat j < ls.length) (.need (List.length (ls.getD j.toNat []) ≤ (100000:Nat)∧List.length (ls.getD j.toNat []) ≤ (100000:Nat)) (.cond (!decide (ls.getD j.toNat [] = ls.getD j.toNat [])) (.leaf (Sum.inr (Exit.ret,Lay.st L_bru0_0 noU (false,())))) (.leaf (Sum.inl (ss,ls,IntKind.i64.wrap (j + (1:Int)),()))))))))))))))))))))))))))) (.leaf (Sum.inr (Exit.exit (0:Nat),Lay.st L_bru0_1 noU ()))):=by kernel_rfl
def inv_bru0:List (Int×(Int×(Int×(Int×(Int×((List (Int×V)×(List (List Int)×Int))×(List (Int×(Int×(Int×Bool)))×Int)))))))×List (List (Int×(Int×(Int×V))))×Int×Unit → Prop:=fun (ss,ls,j,()) => 0 ≤ j∧j ≤ 2∧ss.length = 2∧ls.length = 2∧(∀ s ∈ ss,sOk s)∧∀ l ∈ ls,l.length ≤ 100000
def O_bru0:List (Int×(Int×(Int×(Int×(Int×((List (Int×V)×(List (List Int)×Int))×(List (Int×(Int×(Int×Bool)))×Int)))))))×List (List (Int×(Int×(Int×V))))×Int×Unit → Tree (Exit×St):=fun (ss,ls,j,()) => (.leaf (.exit 0,L_bru0_1.st noU ()))
def R_bru0:LRun:=runOf 107 L_bru0 (fun x => x) (inv_bru0) (O_bru0)
theorem K_bru0:LoopOk P [] 107 none noU C_bru0 (R_bru0):=by
 refine loop_of hm (cx:=[c_rCopy.gc,c_OwnEntries.gc,c_Run.gc,c_rRun.gc,c_rSame.gc,c_SameEntries.gc]) [] (xl:=X_bru0) (α:=List (Int×(Int×(Int×(Int×(Int×((List (Int×V)×(List (List Int)×Int))×(List (Int×(Int×(Int×Bool)))×Int)))))))×List (List (Int×(Int×(Int×V))))×Int×Unit) (fun x => x) (fun (ss,ls,j,()) => (2 - j).toNat) (fun _ => rfl) (by kernel_rfl) (by kernel_rfl) ?_ (by kernel_rfl) trivial ?_
 ·intro e S L' h
  unfold X_bru0 at h
  split at h <;> first | (cases h; done) | (cases h; kernel_rfl) | (rcases bif_some h with h | h <;> cases h <;> kernel_rfl)
 ·rintro ⟨ss,ls,j,⟨⟩⟩ hinv Q hQ
  refine hold_of_eq (B_bru0 ss ls j) ?_
  obtain ⟨h0,h1,h2,h3,h4,h5⟩:=hinv
  rw [W_id (n:=j + 1) (by omega) (by omega)]
  refine ⟨fun c1 => ?_,fun c1 => hQ⟩
  have c1:=of_decide_eq_true c1
  have a1:0 ≤ j∧j < (ss.length:Int):=by omega
  have a2:j.toNat < ss.length:=by omega
  have b1:0 ≤ j∧j < (ls.length:Int):=by omega
  have b2:j.toNat < ls.length:=by omega
  have hs:sOk (ss.getD j.toNat (0,0,0,0,0,([],[],0),[],0)):=h4 _ (getD_mem a2)
  have hl:(ls.getD j.toNat []).length ≤ 100000:=h5 _ (getD_mem b2)
  have hr:=runS_sOk (ss.getD j.toNat (0,0,0,0,0,([],[],0),[],0)) (ls.getD j.toNat [])
  have e1:∀ z:Int,(z != z) = true → False:=fun z h => bneT h rfl
  have e2:∀ z:Site,(!sameB z z) = true → False:=fun z h => by rw [sameB_iff.2 rfl] at h; cases h
  have e3:∀ z:List Entry,(!decide (z = z)) = true → False:=fun z h => by rw [decide_eq_true rfl] at h; cases h
  exact ⟨a1,⟨a2,⟨hs,⟨b1,⟨b2,⟨hl,⟨hs,⟨a1,⟨a2,⟨b1,⟨b2,⟨hs,⟨⟨hr,hr⟩,⟨fun c2 => (e2 _ c2).elim,fun _ => ⟨fun c3 => (e1 _ c3).elim,fun _ => ⟨fun c4 => (e1 _ c4).elim,fun _ => ⟨a1,⟨a2,⟨⟨hs,hs⟩,⟨fun c5 => (e2 _ c5).elim,fun _ => ⟨b1,⟨b2,⟨⟨hl,hl⟩,⟨fun c6 => (e3 _ c6).elim,fun _ => ⟨⟨⟨by omega,by omega,h2,h3,h4,h5⟩,by show (2 - (j + 1)).toNat < (2 - j).toNat; omega⟩,hQ⟩⟩⟩⟩⟩⟩⟩⟩⟩⟩⟩⟩⟩⟩⟩⟩⟩⟩⟩⟩⟩⟩⟩⟩⟩
theorem T_BarrierRuns (S0 S1 S2 S3 S4:Int) (S5:List (Int×V)) (S6:List (List Int)) (S7:Int) (S8:List (Int×(Int×(Int×Bool)))) (S9:Int) (l:List (Int×(Int×(Int×V)))) (nums:List Int):fnTree (P:=P) [c_BigSite.gc,c_NewRing.gc,c_SiteOf.gc,c_EntriesOf.gc,c_awake.gc] (lpOf [(0,R_bru0)]) Tryz.f4 (encL 0 [.agg (.pair tI (.pair tI (.pair tI (.pair tI (.pair tI (.pair (.pair (.sl (.pair tI tV)) (.pair (.sl tIs) tI)) (.pair (.sl (.pair tI (.pair tI (.pair tI .bool)))) tI))))))),.val (.sl (.pair tI (.pair tI (.pair tI tV)))),.val tIs] ((S0,(S1,(S2,(S3,(S4,((S5,(S6,S7)),(S8,S9))))))),l,nums,())) =
 Tree.cond (bigH (S5,S6,S7) || decide ((S8.length:Int) > (20:Int))) (.leaf (.bool true)) (.cond (decide ((l.length:Int) > (210:Int))) (.leaf (.bool true)) (.need (pr_SiteOf ((),nums,(0:Int),())) (.need (pr_EntriesOf ((),(V_SiteOf ((),nums,(0:Int),())).1,(25:Int),nums,(V_SiteOf ((),nums,(0:Int),())).2,())) (.need (inv_bru0 ([(S0,S1,S2,S3,S4,(S5,S6,S7),S8,S9),(V_SiteOf ((),nums,(0:Int),())).1],[l,(V_EntriesOf ((),(V_SiteOf ((),nums,(0:Int),())).1,(25:Int),nums,(V_SiteOf ((),nums,(0:Int),())).2,())).1],(0:Int),())) (.leaf (.bool true)))))):=by kernel_rfl
def c_BarrierRuns:PC P:=PC.of (α:=(Int×(Int×(Int×(Int×(Int×((List (Int×V)×(List (List Int)×Int))×(List (Int×(Int×(Int×Bool)))×Int)))))))×List (Int×(Int×(Int×V)))×List Int×Unit) 4 [.agg (.pair tI (.pair tI (.pair tI (.pair tI (.pair tI (.pair (.pair (.sl (.pair tI tV)) (.pair (.sl tIs) tI)) (.pair (.sl (.pair tI (.pair tI (.pair tI .bool)))) tI))))))),.val (.sl (.pair tI (.pair tI (.pair tI tV)))),.val tIs] (fun x => x) (fun x => x) (fun _ => rfl)
 (fun _ => none)
 (fun x => .bool true) (by kernel_rfl) (by
  rintro ⟨⟨S0,⟨S1,⟨S2,⟨S3,⟨S4,⟨⟨S5,⟨S6,S7⟩⟩,⟨S8,S9⟩⟩⟩⟩⟩⟩⟩,l,nums,⟨⟩⟩ hp
  refine fn_of hm (by kernel_rfl) (by kernel_rfl) (T_BarrierRuns S0 S1 S2 S3 S4 S5 S6 S7 S8 S9 l nums) ⟨K_bru0,trivial⟩ ?_
  try dsimp only at hp
  try dsimp only
  refine ⟨fun _ => rfl,fun c1 => ⟨fun _ => rfl,fun c2 => ?_⟩⟩
  have c2:=of_decide_eq_false c2
  have hpr:pr_SiteOf ((),nums,0,()):=⟨by decide,by decide⟩
  have hZ:=S_SiteOf _ hpr
  refine ⟨hpr,?_⟩
  generalize V_SiteOf ((),nums,0,()) = sk at *
  obtain ⟨z0,z1,z2⟩ : SiteV sk.1∧0 ≤ sk.2∧sk.2 ≤ 0 + 1000:=hZ
  have hpe:pr_EntriesOf ((),sk.1,25,nums,sk.2,()):=⟨z0,by decide,by decide,z1,by omega⟩
  have hE:=S_EntriesOf _ hpe
  refine ⟨hpe,?_⟩
  generalize V_EntriesOf ((),sk.1,25,nums,sk.2,()) = ek at *
  have hE1:(ek.1.length:Int) ≤ 25:=hE.1
  refine ⟨⟨by decide,by decide,rfl,rfl,?_,?_⟩,rfl⟩
  ·intro w hw
   rcases List.mem_cons.1 hw with rfl | hw
   ·have k:=Bool.or_eq_false_iff.1 (show (bigH (S5,S6,S7) || decide ((S8.length:Int) > 20)) = false from c1)
    have k2:=of_decide_eq_false k.2
    exact ⟨bigH_ok k.1,by dsimp only; omega⟩
   ·rw [List.mem_singleton.1 hw]; exact z0.sOk
  ·intro w hw
   rcases List.mem_cons.1 hw with rfl | hw
   ·omega
   ·rw [List.mem_singleton.1 hw]; omega)
end
end Go.MB
