/- The laws PipeLoads and PipeBears. -/
import Derived.Test.YtoockflaeaknbaaGreatMtD
namespace Go.MP
open Go Go.Sx Go.Proofs
set_option linter.unusedVariables false
set_option linter.unusedSimpArgs false
noncomputable section
theorem bkL_len (l:List Tb) (p:Pth) (c:Cs) (hole:Int) (a:List Hg) (b:List R2):∀ (m:List Pc) (i:Int) (o:List Int),(bkL l p c hole a b m i o).length ≤ m.length + o.length
  | [],i,o => by rw [bkL]; omega
  | q :: r,i,o => by
    rw [bkL]
    refine Nat.le_trans (bkL_len l p c hole a b r _ _) ?_
    rw [List.length_cons]
    split
    · rw [List.length_append,List.length_singleton]; omega
    · omega
theorem bklS_len (l:List Tb) (p:Pth) (c:Cs) (hole:Int):((bklS l p c hole).1.length:Int) < 2 ^ 62:=by
  unfold bklS
  split
  · show ((0:Nat):Int) < 2 ^ 62; decide
  split
  · show ((0:Nat):Int) < 2 ^ 62; decide
  have h1:=pcsS_len l p
  have h2:=bkL_len l p c hole (loadsS l p c).1 (loadsS l p c).2.1 (pcsS l p) 0 []
  rw [List.length_nil] at h2
  dsimp only
  omega
theorem loadsS_len (l:List Tb) (p:Pth) (c:Cs):((loadsS l p c).1.length:Int) < 2 ^ 62:=by
  by_cases e:(loadsS l p c).2.2 = 0
  · have h1:=(loads_ok0 e).1
    have h2:=pcsS_len l p
    omega
  · rw [loads_err e]; decide
def L_PipeLoadsL:Lay:={ slots:=[(13,.row 24 tTs),(14,.row 29 (.pair tV tVs)),(15,.row 33 (.pair tI (.pair tI (.pair tPart tI)))),(16,.val tI)] }
def L_PipeLoadsL_0:Lay:={ slots:=[(8,.val .bool)] }
def L_PipeLoadsL_1:Lay:={ slots:=[] }
def X_PipeLoadsL:Exit → St → Option Lay
  | .ret,_ => some L_PipeLoadsL_0
  | .exit 0,_ => some L_PipeLoadsL_1
  | _,_ => none
abbrev C_PipeLoadsL:Code:=loopC (bodyOf Tryz.f3) 0
theorem B_PipeLoadsL (ss:List (List Tb)) (pp:List (V × List V)) (cc:List (Int × (Int × ((Int × Int) × Int)))) (k:Int):loopBodyA (P:=P) [c_OwnString.gc,c_Loads.gc,c_rLoads.gc,c_CheckCase.gc,c_rCheckCase.gc,c_SameHangs.gc,c_rSame.gc] (lpOf []) [] 121 noU (inner C_PipeLoadsL) L_PipeLoadsL X_PipeLoadsL (α:=List (List Tb) × List (V × List V) × List (Int × (Int × ((Int × Int) × Int))) × Int × Unit) (fun x => x) (fun x => x) (ss,pp,cc,k,()) =
  Tree.cond (decide (k < (2:Int))) (.need ((0:Int) ≤ k ∧ k < (ss.length:Int)) (.need (Int.toNat k < List.length ss) (.need ((↑(List.length (List.getD ss (Int.toNat k) [])):Int) < (1000000:Int)) (.need ((0:Int) ≤ k ∧ k < (pp.length:Int)) (.need (Int.toNat k < List.length pp) (.need ((0:Int) ≤ k ∧ k < (cc.length:Int)) (.need (Int.toNat k < List.length cc) (.need ((↑(List.length (List.getD ss (Int.toNat k) [])):Int) < (2:Int) ^ (62:Nat)) (.need ((0:Int) ≤ k ∧ k < (ss.length:Int)) (.need (Int.toNat k < List.length ss) (.need ((0:Int) ≤ k ∧ k < (pp.length:Int)) (.need (Int.toNat k < List.length pp) (.need ((0:Int) ≤ k ∧ k < (cc.length:Int)) (.need (Int.toNat k < List.length cc) (.need ((↑(List.length (List.getD ss (Int.toNat k) [])):Int) < (2:Int) ^ (62:Nat)) (.need ((0:Int) ≤ k ∧ k < (cc.length:Int)) (.need (Int.toNat k < List.length cc) (.need ((↑(List.length (List.getD ss (Int.toNat k) [])):Int) < (2:Int) ^ (62:Nat)) (.need ((0:Int) ≤ k ∧ k < (ss.length:Int)) (.need (Int.toNat k < List.length ss) (.need ((0:Int) ≤ k ∧ k < (cc.length:Int)) (.need (Int.toNat k < List.length cc) (.need ((↑(List.length (List.getD ss (Int.toNat k) [])):Int) < (2:Int) ^ (62:Nat)) (.cond (caseS (List.getD ss (Int.toNat k) []) (List.getD cc (Int.toNat k) (0,0,(0,0),0)) != caseS (List.getD ss (Int.toNat k) []) (List.getD cc (Int.toNat k) (0,0,(0,0),0))) (.leaf (Sum.inr (Exit.ret,Lay.st L_PipeLoadsL_0 noU (false,())))) (.need ((loadsS (List.getD ss (Int.toNat k) []) (List.getD pp (Int.toNat k) (((0:Int),(0:Int),(0:Int)),[])) (List.getD cc (Int.toNat k) (0,0,(0,0),0))).fst = (loadsS (List.getD ss (Int.toNat k) []) (List.getD pp (Int.toNat k) (((0:Int),(0:Int),(0:Int)),[])) (List.getD cc (Int.toNat k) (0,0,(0,0),0))).fst ∧ (↑(List.length (loadsS (List.getD ss (Int.toNat k) []) (List.getD pp (Int.toNat k) (((0:Int),(0:Int),(0:Int)),[])) (List.getD cc (Int.toNat k) (0,0,(0,0),0))).fst):Int) < (2:Int) ^ (62:Nat)) (.cond false (.leaf (Sum.inr (Exit.ret,Lay.st L_PipeLoadsL_0 noU (false,())))) (.cond ((loadsS (List.getD ss (Int.toNat k) []) (List.getD pp (Int.toNat k) (((0:Int),(0:Int),(0:Int)),[])) (List.getD cc (Int.toNat k) (0,0,(0,0),0))).snd.snd != (loadsS (List.getD ss (Int.toNat k) []) (List.getD pp (Int.toNat k) (((0:Int),(0:Int),(0:Int)),[])) (List.getD cc (Int.toNat k) (0,0,(0,0),0))).snd.snd) (.leaf (Sum.inr (Exit.ret,Lay.st L_PipeLoadsL_0 noU (false,())))) (.need ((0:Int) ≤ k ∧ k < (ss.length:Int)) (.need (Int.toNat k < List.length ss) (.need (List.getD ss (Int.toNat k) [] = List.getD ss (Int.toNat k) [] ∧ (↑(List.length (List.getD ss (Int.toNat k) [])):Int) < (2:Int) ^ (62:Nat)) (.cond false (.leaf (Sum.inr (Exit.ret,Lay.st L_PipeLoadsL_0 noU (false,())))) (.leaf (Sum.inl (ss,pp,cc,IntKind.i64.wrap (k + (1:Int)),())))))))))))))))))))))))))))))))))) (.leaf (Sum.inr (Exit.exit (0:Nat),Lay.st L_PipeLoadsL_1 noU ()))):=by kernel_rfl
def inv_PipeLoadsL:List (List Tb) × List (V × List V) × List (Int × (Int × ((Int × Int) × Int))) × Int × Unit → Prop:=fun (ss,pp,cc,k,()) => 0 ≤ k ∧ k ≤ 2 ∧ ss.length = 2 ∧ pp.length = 2 ∧ cc.length = 2 ∧ ∀ x ∈ ss,(x.length:Int) < 1000000
def O_PipeLoadsL:List (List Tb) × List (V × List V) × List (Int × (Int × ((Int × Int) × Int))) × Int × Unit → Tree (Exit × St):=fun (ss,pp,cc,k,()) => (.leaf (.exit 0,L_PipeLoadsL_1.st noU ()))
def R_PipeLoadsL:LRun:=runOf 121 L_PipeLoadsL (fun x => x) (inv_PipeLoadsL) (O_PipeLoadsL)
theorem K_PipeLoadsL:LoopOk P [] 121 none noU C_PipeLoadsL (R_PipeLoadsL):=by
  refine loop_of hm (cx:=[c_OwnString.gc,c_Loads.gc,c_rLoads.gc,c_CheckCase.gc,c_rCheckCase.gc,c_SameHangs.gc,c_rSame.gc]) [] (xl:=X_PipeLoadsL) (α:=List (List Tb) × List (V × List V) × List (Int × (Int × ((Int × Int) × Int))) × Int × Unit) (fun x => x) (fun (ss,pp,cc,k,()) => (2 - k).toNat) (fun _ => rfl) (by kernel_rfl) (by kernel_rfl) ?_ (by kernel_rfl) trivial ?_
  · intro e S L' h
    unfold X_PipeLoadsL at h
    split at h <;> first | (cases h; done) | (cases h; kernel_rfl) | (rcases bif_some h with h | h <;> cases h <;> kernel_rfl)
  · rintro ⟨ss,pp,cc,k,⟨⟩⟩ hinv Q hQ
    refine hold_of_eq (B_PipeLoadsL ss pp cc k) ?_
    obtain ⟨h0,h1,h2,h3,h6,h4⟩:=hinv
    rw [W_id (n:=k + 1) (by omega) (by omega)]
    refine ⟨fun c1 => ?_,fun c1 => hQ⟩
    have c1:=of_decide_eq_true c1
    have i1:0 ≤ k ∧ k < (ss.length:Int):=by omega
    have i2:k.toNat < ss.length:=by omega
    have i3:0 ≤ k ∧ k < (pp.length:Int):=by omega
    have i4:k.toNat < pp.length:=by omega
    have i6:0 ≤ k ∧ k < (cc.length:Int):=by omega
    have i7:k.toNat < cc.length:=by omega
    have i5:((ss.getD k.toNat []).length:Int) < 1000000:=h4 _ (mem_getD h0 (by omega))
    have i8:((ss.getD k.toNat []).length:Int) < 2 ^ 62:=by omega
    have e1:∀ z:Int,(z != z) = false:=fun z => by simp
    have e2:∀ z:Bool,(z == z) = true:=fun z => by simp
    rw [e1,e1]
    exact ⟨i1,i2,i5,i3,i4,i6,i7,i8,i1,i2,i3,i4,i6,i7,i8,i6,i7,i8,i1,i2,i6,i7,i8,fun h => (by cases h),fun _ => ⟨⟨rfl,loadsS_len _ _ _⟩,fun h => (by cases h),fun _ => ⟨fun h => (by cases h),fun _ => ⟨i1,i2,⟨rfl,i8⟩,fun h => (by cases h),fun _ => ⟨⟨⟨by omega,by omega,h2,h3,h6,h4⟩,by show (2 - (k + 1)).toNat < (2 - k).toNat; omega⟩,hQ⟩⟩⟩⟩⟩
theorem T_PipeLoads (l_0:List Tb) (p_0 p_1 p_2:Int) (p_3:List V) (c_0 c_1 c_2 c_3 c_4:Int) (nums:List Int):fnTree (P:=P) [c_big.gc,c_awake.gc,c_NewRing.gc,c_kPath.gc,c_kStr.gc,c_kCase.gc] (lpOf [(0,R_PipeLoadsL)]) Tryz.f3 (encL 0 [.agg tTs,.agg (.pair tV tVs),.agg (.pair tI (.pair tI (.pair tPart tI))),.val tIs] (l_0,((p_0,(p_1,p_2)),p_3),(c_0,(c_1,((c_2,c_3),c_4))),nums,())) =
  Tree.cond (decide ((l_0.length:Int) > (10:Int)) || decide ((p_3.length:Int) > (24:Int))) (.leaf (SV.bool true)) (.need (pr_kPath ((),(6:Int),nums,(0:Int),())) (.need ((0:Int) ≤ (V_kPath ((),(6:Int),nums,(0:Int),())).snd ∧ (V_kPath ((),(6:Int),nums,(0:Int),())).snd ≤ (400000000:Int)) (.need ((0:Int) ≤ (strK nums (lenS (V_kPath ((),(6:Int),nums,(0:Int),())).fst) (Int.toNat ((1:Int) + nextS nums (V_kPath ((),(6:Int),nums,(0:Int),())).snd (4:Int))) ((V_kPath ((),(6:Int),nums,(0:Int),())).snd + (1:Int)) []).snd ∧ (strK nums (lenS (V_kPath ((),(6:Int),nums,(0:Int),())).fst) (Int.toNat ((1:Int) + nextS nums (V_kPath ((),(6:Int),nums,(0:Int),())).snd (4:Int))) ((V_kPath ((),(6:Int),nums,(0:Int),())).snd + (1:Int)) []).snd < (1000000000:Int)) (.need (inv_PipeLoadsL ([l_0,(strK nums (lenS (V_kPath ((),(6:Int),nums,(0:Int),())).fst) (Int.toNat ((1:Int) + nextS nums (V_kPath ((),(6:Int),nums,(0:Int),())).snd (4:Int))) ((V_kPath ((),(6:Int),nums,(0:Int),())).snd + (1:Int)) []).fst],[((p_0,p_1,p_2),p_3),(V_kPath ((),(6:Int),nums,(0:Int),())).fst],[(c_0,c_1,(c_2,c_3),c_4),caseK nums (strK nums (lenS (V_kPath ((),(6:Int),nums,(0:Int),())).fst) (Int.toNat ((1:Int) + nextS nums (V_kPath ((),(6:Int),nums,(0:Int),())).snd (4:Int))) ((V_kPath ((),(6:Int),nums,(0:Int),())).snd + (1:Int)) []).snd],(0:Int),())) (.leaf (SV.bool true)))))):=by kernel_rfl
def c_PipeLoads:PC P:=PC.of (α:=List Tb × (V × List V) × (Int × (Int × ((Int × Int) × Int))) × List Int × Unit) 3 [.agg tTs,.agg (.pair tV tVs),.agg (.pair tI (.pair tI (.pair tPart tI))),.val tIs] (fun x => x) (fun x => x) (fun _ => rfl)
  (fun _ => none)
  (fun x => .bool true) (by kernel_rfl) (by
    rintro ⟨l_0,⟨⟨p_0,⟨p_1,p_2⟩⟩,p_3⟩,⟨c_0,⟨c_1,⟨⟨c_2,c_3⟩,c_4⟩⟩⟩,nums,⟨⟩⟩ hp
    refine fn_of hm (by kernel_rfl) (by kernel_rfl) (T_PipeLoads l_0 p_0 p_1 p_2 p_3 c_0 c_1 c_2 c_3 c_4 nums) ⟨K_PipeLoadsL,trivial⟩ ?_
    try dsimp only at hp
    try dsimp only
    have hpr:pr_kPath ((),(6:Int),nums,(0:Int),()):=⟨by decide,by decide,by decide,by decide⟩
    have hS:=S_kPath _ hpr
    generalize V_kPath ((),(6:Int),nums,(0:Int),()) = b at *
    obtain ⟨⟨⟨x,y,z⟩,pl⟩,k1⟩:=b
    obtain ⟨hc,h1,h2,_⟩:=hS
    dsimp only at hc h1 h2 ⊢
    have n0:=nextS_rng (l:=nums) (k:=k1) (n:=4) (by omega) (by decide)
    have hstr:=strK_ok (l:=nums) (n:=lenS ((x,y,z),pl)) (1 + nextS nums k1 4).toNat (k1 + 1) [] (by omega) ⟨fun t ht => (by cases ht),lenS_nn _,by decide,fun t ht => (by cases ht)⟩
    generalize strK nums (lenS ((x,y,z),pl)) (1 + nextS nums k1 4).toNat (k1 + 1) [] = st at *
    obtain ⟨s,k2⟩:=st
    obtain ⟨_,b,ha,hb⟩:=hstr
    dsimp only at b ⊢
    rw [List.length_nil] at b
    dsimp only at ha hb
    refine ⟨fun _ => rfl,fun d => ⟨hpr,⟨by omega,by omega⟩,⟨by omega,by omega⟩,⟨by decide,by decide,rfl,rfl,rfl,?_⟩,rfl⟩⟩
    simp only [Bool.or_eq_false_iff,decide_eq_false_iff_not] at d
    intro w hw
    rcases List.mem_cons.1 hw with rfl | hw
    · omega
    · rw [List.mem_singleton.1 hw]; omega)
def L_SameIntL:Lay:={ slots:=[(0,.val tIs),(1,.val tIs),(5,.val tI)] }
def L_SameIntL_0:Lay:={ slots:=[(4,.val .bool)] }
def L_SameIntL_1:Lay:={ slots:=[(0,.val tIs),(1,.val tIs)] }
def X_SameIntL:Exit → St → Option Lay
  | .ret,_ => some L_SameIntL_0
  | .exit 0,_ => some L_SameIntL_1
  | _,_ => none
abbrev C_SameIntL:Code:=loopC (bodyOf Tryz.f23) 0
theorem B_SameIntL (a b:List Int) (i:Int):loopBodyA (P:=P) [] (lpOf []) [] 32 noU (inner C_SameIntL) L_SameIntL X_SameIntL (α:=List Int × List Int × Int × Unit) (fun x => x) (fun x => x) (a,b,i,()) =
  Tree.cond (decide (i < (a.length:Int))) (.cond (decide (i < (b.length:Int))) (.need ((0:Int) ≤ i ∧ i < (a.length:Int)) (.need ((0:Int) ≤ i ∧ i < (b.length:Int)) (.cond (List.getD a (Int.toNat i) (0:Int) != List.getD b (Int.toNat i) (0:Int)) (.leaf (Sum.inr (Exit.ret,Lay.st L_SameIntL_0 noU (false,())))) (.leaf (Sum.inl (a,b,IntKind.i64.wrap (i + (1:Int)),())))))) (.leaf (Sum.inr (Exit.exit (0:Nat),Lay.st L_SameIntL_1 noU (a,b,()))))) (.leaf (Sum.inr (Exit.exit (0:Nat),Lay.st L_SameIntL_1 noU (a,b,())))):=by kernel_rfl
def inv_SameIntL:List Int × List Int × Int × Unit → Prop:=fun (a,b,i,()) => 0 ≤ i ∧ i ≤ a.length ∧ a = b ∧ (a.length:Int) < 2 ^ 62
def O_SameIntL:List Int × List Int × Int × Unit → Tree (Exit × St):=fun (a,b,i,()) => (.leaf (.exit 0,L_SameIntL_1.st noU (a,b,())))
def R_SameIntL:LRun:=runOf 32 L_SameIntL (fun x => x) (inv_SameIntL) (O_SameIntL)
theorem K_SameIntL:LoopOk P [] 32 none noU C_SameIntL (R_SameIntL):=by
  refine loop_of hm (cx:=[]) [] (xl:=X_SameIntL) (α:=List Int × List Int × Int × Unit) (fun x => x) (fun (a,b,i,()) => (a.length - i).toNat) (fun _ => rfl) (by kernel_rfl) (by kernel_rfl) ?_ (by kernel_rfl) trivial ?_
  · intro e S L' h
    unfold X_SameIntL at h
    split at h <;> first | (cases h; done) | (cases h; kernel_rfl) | (rcases bif_some h with h | h <;> cases h <;> kernel_rfl)
  · rintro ⟨a,b,i,⟨⟩⟩ hinv Q hQ
    refine hold_of_eq (B_SameIntL a b i) ?_
    obtain ⟨h0,h1,rfl,h2⟩:=hinv
    rw [W_id (n:=i + 1) (by omega) (by omega)]
    refine ⟨fun c1 => ⟨fun c1 => ?_,fun c1 => hQ⟩,fun c1 => hQ⟩
    have c1:=of_decide_eq_true c1
    exact ⟨⟨h0,c1⟩,⟨h0,c1⟩,fun c2 => absurd c2 (by simp),fun c2 => ⟨⟨⟨by omega,by omega,rfl,h2⟩,by show ((a.length:Int) - (i + 1)).toNat < ((a.length:Int) - i).toNat; omega⟩,hQ⟩⟩
theorem T_SameInts (a b:List Int):fnTree (P:=P) [] (lpOf [(0,R_SameIntL)]) Tryz.f23 (encL 0 [.val tIs,.val tIs] (a,b,())) =
  Tree.need (inv_SameIntL (a,b,(0:Int),())) (.leaf (SV.bool ((a.length:Int) == (b.length:Int)))):=by kernel_rfl
def c_SameInts:PC P:=PC.of (α:=List Int × List Int × Unit) 23 [.val tIs,.val tIs] (fun x => x) (fun x => x) (fun _ => rfl)
  (fun x => some (x.1 = x.2.1 ∧ (x.1.length:Int) < 2 ^ 62))
  (fun x => .bool true) (by kernel_rfl) (by
    rintro ⟨a,b,⟨⟩⟩ hp
    refine fn_of hm (by kernel_rfl) (by kernel_rfl) (T_SameInts a b) ⟨K_SameIntL,trivial⟩ ?_
    try dsimp only at hp
    try dsimp only
    obtain ⟨rfl,h1⟩ : a = b ∧ (a.length:Int) < 2 ^ 62:=hp
    refine ⟨⟨by decide,by omega,rfl,h1⟩,?_⟩
    show SV.bool _ = SV.bool true
    simp)
def L_PipeBearsL:Lay:={ slots:=[(15,.row 24 tTs),(16,.row 29 (.pair tV tVs)),(17,.row 33 (.pair tI (.pair tI (.pair tPart tI)))),(18,.row 2 tI),(19,.val tI)] }
def L_PipeBearsL_0:Lay:={ slots:=[(10,.val .bool)] }
def L_PipeBearsL_1:Lay:={ slots:=[] }
def X_PipeBearsL:Exit → St → Option Lay
  | .ret,_ => some L_PipeBearsL_0
  | .exit 0,_ => some L_PipeBearsL_1
  | _,_ => none
abbrev C_PipeBearsL:Code:=loopC (bodyOf Tryz.f4) 0
theorem B_PipeBearsL (ss:List (List Tb)) (pp:List (V × List V)) (cc:List (Int × (Int × ((Int × Int) × Int)))) (hh:List Int) (k:Int):loopBodyA (P:=P) [c_Strong.gc,c_rStrong.gc,c_Buckles.gc,c_rBuckles.gc,c_SameInts.gc] (lpOf []) [] 162 noU (inner C_PipeBearsL) L_PipeBearsL X_PipeBearsL (α:=List (List Tb) × List (V × List V) × List (Int × (Int × ((Int × Int) × Int))) × List Int × Int × Unit) (fun x => x) (fun x => x) (ss,pp,cc,hh,k,()) =
  Tree.cond (decide (k < (2:Int))) (.need ((0:Int) ≤ k ∧ k < (ss.length:Int)) (.need (Int.toNat k < List.length ss) (.need ((0:Int) ≤ k ∧ k < (pp.length:Int)) (.need (Int.toNat k < List.length pp) (.need ((0:Int) ≤ k ∧ k < (cc.length:Int)) (.need (Int.toNat k < List.length cc) (.need ((↑(List.length (List.getD ss (Int.toNat k) [])):Int) < (2:Int) ^ (62:Nat)) (.need ((0:Int) ≤ k ∧ k < (ss.length:Int)) (.need (Int.toNat k < List.length ss) (.need ((0:Int) ≤ k ∧ k < (pp.length:Int)) (.need (Int.toNat k < List.length pp) (.need ((0:Int) ≤ k ∧ k < (cc.length:Int)) (.need (Int.toNat k < List.length cc) (.need ((↑(List.length (List.getD ss (Int.toNat k) [])):Int) < (2:Int) ^ (62:Nat)) (.need ((0:Int) ≤ k ∧ k < (ss.length:Int)) (.need (Int.toNat k < List.length ss) (.need ((0:Int) ≤ k ∧ k < (pp.length:Int)) (.need (Int.toNat k < List.length pp) (.need ((0:Int) ≤ k ∧ k < (cc.length:Int)) (.need (Int.toNat k < List.length cc) (.need ((0:Int) ≤ k ∧ k < (hh.length:Int)) (.need (Int.toNat k < List.length hh) (.need ((↑(List.length (List.getD ss (Int.toNat k) [])):Int) < (2:Int) ^ (62:Nat)) (.need ((0:Int) ≤ k ∧ k < (ss.length:Int)) (.need (Int.toNat k < List.length ss) (.need ((0:Int) ≤ k ∧ k < (pp.length:Int)) (.need (Int.toNat k < List.length pp) (.need ((0:Int) ≤ k ∧ k < (cc.length:Int)) (.need (Int.toNat k < List.length cc) (.need ((0:Int) ≤ k ∧ k < (hh.length:Int)) (.need (Int.toNat k < List.length hh) (.need ((↑(List.length (List.getD ss (Int.toNat k) [])):Int) < (2:Int) ^ (62:Nat)) (.cond (!(strongS (List.getD ss (Int.toNat k) []) (List.getD pp (Int.toNat k) (((0:Int),(0:Int),(0:Int)),[])) (List.getD cc (Int.toNat k) (0,0,(0,0),0))).fst == (strongS (List.getD ss (Int.toNat k) []) (List.getD pp (Int.toNat k) (((0:Int),(0:Int),(0:Int)),[])) (List.getD cc (Int.toNat k) (0,0,(0,0),0))).fst) (.leaf (Sum.inr (Exit.ret,Lay.st L_PipeBearsL_0 noU (false,())))) (.cond ((strongS (List.getD ss (Int.toNat k) []) (List.getD pp (Int.toNat k) (((0:Int),(0:Int),(0:Int)),[])) (List.getD cc (Int.toNat k) (0,0,(0,0),0))).snd.fst != (strongS (List.getD ss (Int.toNat k) []) (List.getD pp (Int.toNat k) (((0:Int),(0:Int),(0:Int)),[])) (List.getD cc (Int.toNat k) (0,0,(0,0),0))).snd.fst) (.leaf (Sum.inr (Exit.ret,Lay.st L_PipeBearsL_0 noU (false,())))) (.cond ((strongS (List.getD ss (Int.toNat k) []) (List.getD pp (Int.toNat k) (((0:Int),(0:Int),(0:Int)),[])) (List.getD cc (Int.toNat k) (0,0,(0,0),0))).snd.snd != (strongS (List.getD ss (Int.toNat k) []) (List.getD pp (Int.toNat k) (((0:Int),(0:Int),(0:Int)),[])) (List.getD cc (Int.toNat k) (0,0,(0,0),0))).snd.snd) (.leaf (Sum.inr (Exit.ret,Lay.st L_PipeBearsL_0 noU (false,())))) (.need ((bklS (List.getD ss (Int.toNat k) []) (List.getD pp (Int.toNat k) (((0:Int),(0:Int),(0:Int)),[])) (List.getD cc (Int.toNat k) (0,0,(0,0),0)) (List.getD hh (Int.toNat k) (0:Int))).fst = (bklS (List.getD ss (Int.toNat k) []) (List.getD pp (Int.toNat k) (((0:Int),(0:Int),(0:Int)),[])) (List.getD cc (Int.toNat k) (0,0,(0,0),0)) (List.getD hh (Int.toNat k) (0:Int))).fst ∧ (↑(List.length (bklS (List.getD ss (Int.toNat k) []) (List.getD pp (Int.toNat k) (((0:Int),(0:Int),(0:Int)),[])) (List.getD cc (Int.toNat k) (0,0,(0,0),0)) (List.getD hh (Int.toNat k) (0:Int))).fst):Int) < (2:Int) ^ (62:Nat)) (.cond false (.leaf (Sum.inr (Exit.ret,Lay.st L_PipeBearsL_0 noU (false,())))) (.cond ((bklS (List.getD ss (Int.toNat k) []) (List.getD pp (Int.toNat k) (((0:Int),(0:Int),(0:Int)),[])) (List.getD cc (Int.toNat k) (0,0,(0,0),0)) (List.getD hh (Int.toNat k) (0:Int))).snd != (bklS (List.getD ss (Int.toNat k) []) (List.getD pp (Int.toNat k) (((0:Int),(0:Int),(0:Int)),[])) (List.getD cc (Int.toNat k) (0,0,(0,0),0)) (List.getD hh (Int.toNat k) (0:Int))).snd) (.leaf (Sum.inr (Exit.ret,Lay.st L_PipeBearsL_0 noU (false,())))) (.leaf (Sum.inl (ss,pp,cc,hh,IntKind.i64.wrap (k + (1:Int)),()))))))))))))))))))))))))))))))))))))))))) (.leaf (Sum.inr (Exit.exit (0:Nat),Lay.st L_PipeBearsL_1 noU ()))):=by kernel_rfl
def inv_PipeBearsL:List (List Tb) × List (V × List V) × List (Int × (Int × ((Int × Int) × Int))) × List Int × Int × Unit → Prop:=fun (ss,pp,cc,hh,k,()) => 0 ≤ k ∧ k ≤ 2 ∧ ss.length = 2 ∧ pp.length = 2 ∧ cc.length = 2 ∧ hh.length = 2 ∧ ∀ x ∈ ss,(x.length:Int) < 1000000
def O_PipeBearsL:List (List Tb) × List (V × List V) × List (Int × (Int × ((Int × Int) × Int))) × List Int × Int × Unit → Tree (Exit × St):=fun (ss,pp,cc,hh,k,()) => (.leaf (.exit 0,L_PipeBearsL_1.st noU ()))
def R_PipeBearsL:LRun:=runOf 162 L_PipeBearsL (fun x => x) (inv_PipeBearsL) (O_PipeBearsL)
theorem K_PipeBearsL:LoopOk P [] 162 none noU C_PipeBearsL (R_PipeBearsL):=by
  refine loop_of hm (cx:=[c_Strong.gc,c_rStrong.gc,c_Buckles.gc,c_rBuckles.gc,c_SameInts.gc]) [] (xl:=X_PipeBearsL) (α:=List (List Tb) × List (V × List V) × List (Int × (Int × ((Int × Int) × Int))) × List Int × Int × Unit) (fun x => x) (fun (ss,pp,cc,hh,k,()) => (2 - k).toNat) (fun _ => rfl) (by kernel_rfl) (by kernel_rfl) ?_ (by kernel_rfl) trivial ?_
  · intro e S L' h
    unfold X_PipeBearsL at h
    split at h <;> first | (cases h; done) | (cases h; kernel_rfl) | (rcases bif_some h with h | h <;> cases h <;> kernel_rfl)
  · rintro ⟨ss,pp,cc,hh,k,⟨⟩⟩ hinv Q hQ
    refine hold_of_eq (B_PipeBearsL ss pp cc hh k) ?_
    obtain ⟨h0,h1,h2,h3,h6,h7,h4⟩:=hinv
    rw [W_id (n:=k + 1) (by omega) (by omega)]
    refine ⟨fun c1 => ?_,fun c1 => hQ⟩
    have c1:=of_decide_eq_true c1
    have i1:0 ≤ k ∧ k < (ss.length:Int):=by omega
    have i2:k.toNat < ss.length:=by omega
    have i3:0 ≤ k ∧ k < (pp.length:Int):=by omega
    have i4:k.toNat < pp.length:=by omega
    have i6:0 ≤ k ∧ k < (cc.length:Int):=by omega
    have i7:k.toNat < cc.length:=by omega
    have i5:((ss.getD k.toNat []).length:Int) < 1000000:=h4 _ (mem_getD h0 (by omega))
    have i8:((ss.getD k.toNat []).length:Int) < 2 ^ 62:=by omega
    have e1:∀ z:Int,(z != z) = false:=fun z => by simp
    have e2:∀ z:Bool,(z == z) = true:=fun z => by simp
    have i9:0 ≤ k ∧ k < (hh.length:Int):=by omega
    have i10:k.toNat < hh.length:=by omega
    rw [e2,e1,e1,e1]
    exact ⟨i1,i2,i3,i4,i6,i7,i8,i1,i2,i3,i4,i6,i7,i8,i1,i2,i3,i4,i6,i7,i9,i10,i8,i1,i2,i3,i4,i6,i7,i9,i10,i8,fun h => (by cases h),fun _ => ⟨fun h => (by cases h),fun _ => ⟨fun h => (by cases h),fun _ => ⟨⟨rfl,bklS_len _ _ _ _⟩,fun h => (by cases h),fun _ => ⟨fun h => (by cases h),fun _ => ⟨⟨⟨by omega,by omega,h2,h3,h6,h7,h4⟩,by show (2 - (k + 1)).toNat < (2 - k).toNat; omega⟩,hQ⟩⟩⟩⟩⟩⟩
theorem T_PipeBears (l_0:List Tb) (p_0 p_1 p_2:Int) (p_3:List V) (c_0 c_1 c_2 c_3 c_4 hole:Int) (nums:List Int):fnTree (P:=P) [c_big.gc,c_awake.gc,c_NewRing.gc,c_kPath.gc,c_kStr.gc,c_kCase.gc,c_Mod64.gc] (lpOf [(0,R_PipeBearsL)]) Tryz.f4 (encL 0 [.agg tTs,.agg (.pair tV tVs),.agg (.pair tI (.pair tI (.pair tPart tI))),.val tI,.val tIs] (l_0,((p_0,(p_1,p_2)),p_3),(c_0,(c_1,((c_2,c_3),c_4))),hole,nums,())) =
  Tree.cond (decide ((l_0.length:Int) > (10:Int)) || decide ((p_3.length:Int) > (24:Int))) (.leaf (SV.bool true)) (.need (pr_kPath ((),(6:Int),nums,(0:Int),())) (.need ((0:Int) ≤ (V_kPath ((),(6:Int),nums,(0:Int),())).snd ∧ (V_kPath ((),(6:Int),nums,(0:Int),())).snd ≤ (400000000:Int)) (.need ((0:Int) ≤ (strK nums (lenS (V_kPath ((),(6:Int),nums,(0:Int),())).fst) (Int.toNat ((1:Int) + nextS nums (V_kPath ((),(6:Int),nums,(0:Int),())).snd (4:Int))) ((V_kPath ((),(6:Int),nums,(0:Int),())).snd + (1:Int)) []).snd ∧ (strK nums (lenS (V_kPath ((),(6:Int),nums,(0:Int),())).fst) (Int.toNat ((1:Int) + nextS nums (V_kPath ((),(6:Int),nums,(0:Int),())).snd (4:Int))) ((V_kPath ((),(6:Int),nums,(0:Int),())).snd + (1:Int)) []).snd < (1000000000:Int)) (.need ((0:Int) < (60:Int) ∧ R64 (60:Int)) (.need (inv_PipeBearsL ([l_0,(strK nums (lenS (V_kPath ((),(6:Int),nums,(0:Int),())).fst) (Int.toNat ((1:Int) + nextS nums (V_kPath ((),(6:Int),nums,(0:Int),())).snd (4:Int))) ((V_kPath ((),(6:Int),nums,(0:Int),())).snd + (1:Int)) []).fst],[((p_0,p_1,p_2),p_3),(V_kPath ((),(6:Int),nums,(0:Int),())).fst],[(c_0,c_1,(c_2,c_3),c_4),caseK nums (strK nums (lenS (V_kPath ((),(6:Int),nums,(0:Int),())).fst) (Int.toNat ((1:Int) + nextS nums (V_kPath ((),(6:Int),nums,(0:Int),())).snd (4:Int))) ((V_kPath ((),(6:Int),nums,(0:Int),())).snd + (1:Int)) []).snd],[hole,IntKind.i64.wrap ((32:Int) + hole % (60:Int))],(0:Int),())) (.leaf (SV.bool true))))))):=by kernel_rfl
def c_PipeBears:PC P:=PC.of (α:=List Tb × (V × List V) × (Int × (Int × ((Int × Int) × Int))) × Int × List Int × Unit) 4 [.agg tTs,.agg (.pair tV tVs),.agg (.pair tI (.pair tI (.pair tPart tI))),.val tI,.val tIs] (fun x => x) (fun x => x) (fun _ => rfl)
  (fun _ => none)
  (fun x => .bool true) (by kernel_rfl) (by
    rintro ⟨l_0,⟨⟨p_0,⟨p_1,p_2⟩⟩,p_3⟩,⟨c_0,⟨c_1,⟨⟨c_2,c_3⟩,c_4⟩⟩⟩,hole,nums,⟨⟩⟩ hp
    refine fn_of hm (by kernel_rfl) (by kernel_rfl) (T_PipeBears l_0 p_0 p_1 p_2 p_3 c_0 c_1 c_2 c_3 c_4 hole nums) ⟨K_PipeBearsL,trivial⟩ ?_
    try dsimp only at hp
    try dsimp only
    have hpr:pr_kPath ((),(6:Int),nums,(0:Int),()):=⟨by decide,by decide,by decide,by decide⟩
    have hS:=S_kPath _ hpr
    generalize V_kPath ((),(6:Int),nums,(0:Int),()) = b at *
    obtain ⟨⟨⟨x,y,z⟩,pl⟩,k1⟩:=b
    obtain ⟨hc,h1,h2,_⟩:=hS
    dsimp only at hc h1 h2 ⊢
    have n0:=nextS_rng (l:=nums) (k:=k1) (n:=4) (by omega) (by decide)
    have hstr:=strK_ok (l:=nums) (n:=lenS ((x,y,z),pl)) (1 + nextS nums k1 4).toNat (k1 + 1) [] (by omega) ⟨fun t ht => (by cases ht),lenS_nn _,by decide,fun t ht => (by cases ht)⟩
    generalize strK nums (lenS ((x,y,z),pl)) (1 + nextS nums k1 4).toNat (k1 + 1) [] = st at *
    obtain ⟨s,k2⟩:=st
    obtain ⟨_,b,ha,hb⟩:=hstr
    dsimp only at b ⊢
    rw [List.length_nil] at b
    dsimp only at ha hb
    refine ⟨fun _ => rfl,fun d => ⟨hpr,⟨by omega,by omega⟩,⟨by omega,by omega⟩,⟨by decide,by decide,by decide⟩,⟨by decide,by decide,rfl,rfl,rfl,rfl,?_⟩,rfl⟩⟩
    simp only [Bool.or_eq_false_iff,decide_eq_false_iff_not] at d
    intro w hw
    rcases List.mem_cons.1 hw with rfl | hw
    · omega
    · rw [List.mem_singleton.1 hw]; omega)
end
end Go.MP
