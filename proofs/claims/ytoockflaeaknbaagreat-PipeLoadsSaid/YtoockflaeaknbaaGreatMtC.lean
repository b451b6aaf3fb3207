/- Loads and what they do to a string, in the program and in the reference. -/
import Derived.Test.YtoockflaeaknbaaGreatMtB
namespace Go.MP
open Go Go.Sx Go.Proofs
set_option linter.unusedVariables false
set_option linter.unusedSimpArgs false
noncomputable section
theorem loads_zero {l:List Tb} {p:Pth} {c:Cs} (h:(loadsS l p c).2.2 = 0):fitsS l p = 0 ∧ caseS l c = 0:=by
  unfold loadsS at h
  split at h
  · rename_i e; exact absurd h e
  rename_i e1
  split at h
  · rename_i e; exact absurd h e
  rename_i e2
  exact ⟨by simpa using e1,by simpa using e2⟩
theorem loadsS_eq {l:List Tb} {p:Pth} {c:Cs} (hf:fitsS l p = 0) (hc:caseS l c = 0):loadsS l p c = if (runS l p c (-1) (startS c) (pcsS l p)).1 = true then ((runS l p c (-1) (startS c) (pcsS l p)).2.1,(runS l p c (-1) (startS c) (pcsS l p)).2.2,0) else ([],[],2):=by
  unfold loadsS
  rw [if_neg (by simp [hf]),if_neg (by simp [hc])]
theorem T_rloads (l_0:List Tb) (p_0 p_1 p_2:Int) (p_3:List V) (c_0 c_1 c_2 c_3 c_4:Int):fnTree (P:=P) [c_rPieces.gc] (lpOf [(0,R_rld)]) Tryz.f38 (encL 0 [.agg tTs,.agg (.pair tV tVs),.agg (.pair tI (.pair tI (.pair tPart tI)))] (l_0,((p_0,(p_1,p_2)),p_3),(c_0,(c_1,((c_2,c_3),c_4))),())) =
  Tree.cond (c_0 == (1:Int)) (.need (inv_rld ((),(),(),pcsS l_0 ((p_0,p_1,p_2),p_3),(),[],[],(0:Int),l_0,p_0,p_1,p_2,p_3,c_0,c_1,c_2,c_3,c_4,(0:Int),c_4,c_4,(0:Int),(0:Int),())) (.cond (runF l_0 ((p_0,p_1,p_2),p_3) (c_0,c_1,(c_2,c_3),c_4) (blw (pcsS l_0 ((p_0,p_1,p_2),p_3)) (0:Int)) (c_4,c_4,(0:Int),(0:Int)) [] [] (List.drop (Int.toNat (0:Int)) (pcsS l_0 ((p_0,p_1,p_2),p_3)))).fst (.leaf (SV.tup [SV.sl (Ty.pair tI (Ty.pair tPart tPart)) (runF l_0 ((p_0,p_1,p_2),p_3) (c_0,c_1,(c_2,c_3),c_4) (blw (pcsS l_0 ((p_0,p_1,p_2),p_3)) (0:Int)) (c_4,c_4,(0:Int),(0:Int)) [] [] (List.drop (Int.toNat (0:Int)) (pcsS l_0 ((p_0,p_1,p_2),p_3)))).snd.snd.snd.fst,SV.sl (Ty.pair tI tI) (runF l_0 ((p_0,p_1,p_2),p_3) (c_0,c_1,(c_2,c_3),c_4) (blw (pcsS l_0 ((p_0,p_1,p_2),p_3)) (0:Int)) (c_4,c_4,(0:Int),(0:Int)) [] [] (List.drop (Int.toNat (0:Int)) (pcsS l_0 ((p_0,p_1,p_2),p_3)))).snd.snd.snd.snd,SV.bool true])) (.leaf (SV.tup [SV.sl (Ty.pair tI (Ty.pair tPart tPart)) [],SV.sl (Ty.pair tI tI) [],SV.bool false])))) (.need (inv_rld ((),(),(),pcsS l_0 ((p_0,p_1,p_2),p_3),(),[],[],(0:Int),l_0,p_0,p_1,p_2,p_3,c_0,c_1,c_2,c_3,c_4,(0:Int),IntKind.i64.wrap ((0:Int) - c_4),IntKind.i64.wrap ((0:Int) - c_4),(0:Int),(0:Int),())) (.cond (runF l_0 ((p_0,p_1,p_2),p_3) (c_0,c_1,(c_2,c_3),c_4) (blw (pcsS l_0 ((p_0,p_1,p_2),p_3)) (0:Int)) (IntKind.i64.wrap ((0:Int) - c_4),IntKind.i64.wrap ((0:Int) - c_4),(0:Int),(0:Int)) [] [] (List.drop (Int.toNat (0:Int)) (pcsS l_0 ((p_0,p_1,p_2),p_3)))).fst (.leaf (SV.tup [SV.sl (Ty.pair tI (Ty.pair tPart tPart)) (runF l_0 ((p_0,p_1,p_2),p_3) (c_0,c_1,(c_2,c_3),c_4) (blw (pcsS l_0 ((p_0,p_1,p_2),p_3)) (0:Int)) (IntKind.i64.wrap ((0:Int) - c_4),IntKind.i64.wrap ((0:Int) - c_4),(0:Int),(0:Int)) [] [] (List.drop (Int.toNat (0:Int)) (pcsS l_0 ((p_0,p_1,p_2),p_3)))).snd.snd.snd.fst,SV.sl (Ty.pair tI tI) (runF l_0 ((p_0,p_1,p_2),p_3) (c_0,c_1,(c_2,c_3),c_4) (blw (pcsS l_0 ((p_0,p_1,p_2),p_3)) (0:Int)) (IntKind.i64.wrap ((0:Int) - c_4),IntKind.i64.wrap ((0:Int) - c_4),(0:Int),(0:Int)) [] [] (List.drop (Int.toNat (0:Int)) (pcsS l_0 ((p_0,p_1,p_2),p_3)))).snd.snd.snd.snd,SV.bool true])) (.leaf (SV.tup [SV.sl (Ty.pair tI (Ty.pair tPart tPart)) [],SV.sl (Ty.pair tI tI) [],SV.bool false])))):=by kernel_rfl
def c_rloads:PC P:=PC.of (α:=List Tb × (V × List V) × (Int × (Int × ((Int × Int) × Int))) × Unit) 38 [.agg tTs,.agg (.pair tV tVs),.agg (.pair tI (.pair tI (.pair tPart tI)))] (fun x => x) (fun x => x) (fun _ => rfl)
  (fun x => some (fitsS x.1 x.2.1 = 0 ∧ caseS x.1 x.2.2.1 = 0))
  (fun x => .tup [.sl tHg (loadsS x.1 x.2.1 x.2.2.1).1,.sl tPart (loadsS x.1 x.2.1 x.2.2.1).2.1,.bool (decide ((loadsS x.1 x.2.1 x.2.2.1).2.2 = 0))]) (by kernel_rfl) (by
    rintro ⟨l_0,⟨⟨p_0,⟨p_1,p_2⟩⟩,p_3⟩,⟨c_0,⟨c_1,⟨⟨c_2,c_3⟩,c_4⟩⟩⟩,⟨⟩⟩ hp
    refine fn_le hm (by kernel_rfl) (by kernel_rfl) (T_rloads l_0 p_0 p_1 p_2 p_3 c_0 c_1 c_2 c_3 c_4) ⟨K_rld,trivial⟩ (by kernel_rfl) ?_
    try dsimp only at hp
    try dsimp only
    obtain ⟨hf,hc⟩ : fitsS l_0 ((p_0,p_1,p_2),p_3) = 0 ∧ caseS l_0 (c_0,c_1,(c_2,c_3),c_4) = 0:=hp
    obtain ⟨hck,hcase⟩:=caseS_ok hc
    have hbit:0 ≤ c_4 ∧ c_4 ≤ 1099511627776:=hcase.bit
    rw [loadsS_eq hf hc,W_id (n:=0 - c_4) (by omega) (by omega)]
    have fin:∀ x:H4,startS (c_0,c_1,(c_2,c_3),c_4) = x → ((runF l_0 ((p_0,p_1,p_2),p_3) (c_0,c_1,(c_2,c_3),c_4) (-1) x [] [] (pcsS l_0 ((p_0,p_1,p_2),p_3))).1 = true →
        LeS (SV.tup [SV.sl tHg (runF l_0 ((p_0,p_1,p_2),p_3) (c_0,c_1,(c_2,c_3),c_4) (-1) x [] [] (pcsS l_0 ((p_0,p_1,p_2),p_3))).2.2.2.1,SV.sl tPart (runF l_0 ((p_0,p_1,p_2),p_3) (c_0,c_1,(c_2,c_3),c_4) (-1) x [] [] (pcsS l_0 ((p_0,p_1,p_2),p_3))).2.2.2.2,SV.bool true]) (SV.tup [SV.sl tHg (if (runS l_0 ((p_0,p_1,p_2),p_3) (c_0,c_1,(c_2,c_3),c_4) (-1) (startS (c_0,c_1,(c_2,c_3),c_4)) (pcsS l_0 ((p_0,p_1,p_2),p_3))).1 = true then ((runS l_0 ((p_0,p_1,p_2),p_3) (c_0,c_1,(c_2,c_3),c_4) (-1) (startS (c_0,c_1,(c_2,c_3),c_4)) (pcsS l_0 ((p_0,p_1,p_2),p_3))).2.1,(runS l_0 ((p_0,p_1,p_2),p_3) (c_0,c_1,(c_2,c_3),c_4) (-1) (startS (c_0,c_1,(c_2,c_3),c_4)) (pcsS l_0 ((p_0,p_1,p_2),p_3))).2.2,0) else (([] : List Hg),([] : List R2),(2:Int))).1,SV.sl tPart (if (runS l_0 ((p_0,p_1,p_2),p_3) (c_0,c_1,(c_2,c_3),c_4) (-1) (startS (c_0,c_1,(c_2,c_3),c_4)) (pcsS l_0 ((p_0,p_1,p_2),p_3))).1 = true then ((runS l_0 ((p_0,p_1,p_2),p_3) (c_0,c_1,(c_2,c_3),c_4) (-1) (startS (c_0,c_1,(c_2,c_3),c_4)) (pcsS l_0 ((p_0,p_1,p_2),p_3))).2.1,(runS l_0 ((p_0,p_1,p_2),p_3) (c_0,c_1,(c_2,c_3),c_4) (-1) (startS (c_0,c_1,(c_2,c_3),c_4)) (pcsS l_0 ((p_0,p_1,p_2),p_3))).2.2,0) else (([] : List Hg),([] : List R2),(2:Int))).2.1,SV.bool (decide ((if (runS l_0 ((p_0,p_1,p_2),p_3) (c_0,c_1,(c_2,c_3),c_4) (-1) (startS (c_0,c_1,(c_2,c_3),c_4)) (pcsS l_0 ((p_0,p_1,p_2),p_3))).1 = true then ((runS l_0 ((p_0,p_1,p_2),p_3) (c_0,c_1,(c_2,c_3),c_4) (-1) (startS (c_0,c_1,(c_2,c_3),c_4)) (pcsS l_0 ((p_0,p_1,p_2),p_3))).2.1,(runS l_0 ((p_0,p_1,p_2),p_3) (c_0,c_1,(c_2,c_3),c_4) (-1) (startS (c_0,c_1,(c_2,c_3),c_4)) (pcsS l_0 ((p_0,p_1,p_2),p_3))).2.2,0) else (([] : List Hg),([] : List R2),(2:Int))).2.2 = 0))])) ∧
        ((runF l_0 ((p_0,p_1,p_2),p_3) (c_0,c_1,(c_2,c_3),c_4) (-1) x [] [] (pcsS l_0 ((p_0,p_1,p_2),p_3))).1 = false →
        LeS (SV.tup [SV.sl tHg [],SV.sl tPart [],SV.bool false]) (SV.tup [SV.sl tHg (if (runS l_0 ((p_0,p_1,p_2),p_3) (c_0,c_1,(c_2,c_3),c_4) (-1) (startS (c_0,c_1,(c_2,c_3),c_4)) (pcsS l_0 ((p_0,p_1,p_2),p_3))).1 = true then ((runS l_0 ((p_0,p_1,p_2),p_3) (c_0,c_1,(c_2,c_3),c_4) (-1) (startS (c_0,c_1,(c_2,c_3),c_4)) (pcsS l_0 ((p_0,p_1,p_2),p_3))).2.1,(runS l_0 ((p_0,p_1,p_2),p_3) (c_0,c_1,(c_2,c_3),c_4) (-1) (startS (c_0,c_1,(c_2,c_3),c_4)) (pcsS l_0 ((p_0,p_1,p_2),p_3))).2.2,0) else (([] : List Hg),([] : List R2),(2:Int))).1,SV.sl tPart (if (runS l_0 ((p_0,p_1,p_2),p_3) (c_0,c_1,(c_2,c_3),c_4) (-1) (startS (c_0,c_1,(c_2,c_3),c_4)) (pcsS l_0 ((p_0,p_1,p_2),p_3))).1 = true then ((runS l_0 ((p_0,p_1,p_2),p_3) (c_0,c_1,(c_2,c_3),c_4) (-1) (startS (c_0,c_1,(c_2,c_3),c_4)) (pcsS l_0 ((p_0,p_1,p_2),p_3))).2.1,(runS l_0 ((p_0,p_1,p_2),p_3) (c_0,c_1,(c_2,c_3),c_4) (-1) (startS (c_0,c_1,(c_2,c_3),c_4)) (pcsS l_0 ((p_0,p_1,p_2),p_3))).2.2,0) else (([] : List Hg),([] : List R2),(2:Int))).2.1,SV.bool (decide ((if (runS l_0 ((p_0,p_1,p_2),p_3) (c_0,c_1,(c_2,c_3),c_4) (-1) (startS (c_0,c_1,(c_2,c_3),c_4)) (pcsS l_0 ((p_0,p_1,p_2),p_3))).1 = true then ((runS l_0 ((p_0,p_1,p_2),p_3) (c_0,c_1,(c_2,c_3),c_4) (-1) (startS (c_0,c_1,(c_2,c_3),c_4)) (pcsS l_0 ((p_0,p_1,p_2),p_3))).2.1,(runS l_0 ((p_0,p_1,p_2),p_3) (c_0,c_1,(c_2,c_3),c_4) (-1) (startS (c_0,c_1,(c_2,c_3),c_4)) (pcsS l_0 ((p_0,p_1,p_2),p_3))).2.2,0) else (([] : List Hg),([] : List R2),(2:Int))).2.2 = 0))])):=by
      rintro x rfl
      obtain ⟨e1,e2⟩:=runF_S l_0 ((p_0,p_1,p_2),p_3) (c_0,c_1,(c_2,c_3),c_4) (pcsS l_0 ((p_0,p_1,p_2),p_3)) (-1) (startS (c_0,c_1,(c_2,c_3),c_4)) [] []
      refine ⟨fun h => ?_,fun h => ?_⟩
      · rw [e1] at h
        obtain ⟨e3,e4⟩:=e2 h
        rw [e3,e4,h,List.nil_append,List.nil_append]
        exact ⟨rfl,rfl,rfl,trivial⟩
      · rw [e1] at h
        rw [h]
        exact ⟨rfl,rfl,rfl,trivial⟩
    refine ⟨fun d1 => ⟨⟨⟨hf,hc,rfl⟩,⟨by decide,by omega,rfl,rfl⟩,by omega,Int.le_refl _,by omega⟩,?_⟩,fun d1 => ⟨⟨⟨hf,hc,rfl⟩,⟨by decide,by omega,rfl,rfl⟩,by omega,Int.le_refl _,by omega⟩,?_⟩⟩
    · have d1:c_0 = 1:=by simpa using d1
      exact fin _ (if_pos d1)
    · have d1:¬ c_0 = 1:=by simpa using d1
      exact fin (0 - c_4,0 - c_4,0,0) (by rw [Int.zero_sub]; exact if_neg d1))
def L_rCheckCaseL:Lay:={ slots:=[(2,.ptr 3067 0),(3,.ptr 4067 0),(6,.val tI)],boxes:=[(3067,[.val tTs]),(4067,[.val tI,.val tI,.val tI,.val tI,.val tI])] }
def L_rCheckCaseL_0:Lay:={ slots:=[(4,.val tI)] }
def L_rCheckCaseL_1:Lay:={ slots:=[] }
def X_rCheckCaseL:Exit → St → Option Lay
  | .ret,_ => some L_rCheckCaseL_0
  | .exit 0,_ => some L_rCheckCaseL_1
  | _,_ => none
abbrev C_rCheckCaseL:Code:=loopC (bodyOf Tryz.f15) 0
theorem B_rCheckCaseL (i:Int) (l:List Tb) (c0 c1 c2 c3 c4:Int):loopBodyA (P:=P) [c_rWet.gc] (lpOf []) [] 67 noU (inner C_rCheckCaseL) L_rCheckCaseL X_rCheckCaseL (α:=Unit × Unit × Int × List Tb × Int × Int × Int × Int × Int × Unit) (fun x => x) (fun x => x) ((),(),i,l,c0,c1,c2,c3,c4,()) =
  Tree.cond (decide (i < (l.length:Int))) (.need ((0:Int) ≤ i ∧ i < (l.length:Int)) (.cond (decide (wetS (List.getD l (Int.toNat i) (0,0,0,0,0,0,0,0,0)) c1 ≤ (0:Int))) (.leaf (Sum.inr (Exit.ret,Lay.st L_rCheckCaseL_0 noU ((10:Int),())))) (.leaf (Sum.inl ((),(),IntKind.i64.wrap (i + (1:Int)),l,c0,c1,c2,c3,c4,()))))) (.leaf (Sum.inr (Exit.exit (0:Nat),Lay.st L_rCheckCaseL_1 noU ()))):=by kernel_rfl
def inv_rCheckCaseL:Unit × Unit × Int × List Tb × Int × Int × Int × Int × Int × Unit → Prop:=fun ((),(),i,l,c0,c1,c2,c3,c4,()) => 0 ≤ i ∧ i ≤ l.length ∧ (l.length:Int) < 2 ^ 62
def O_rCheckCaseL:Unit × Unit × Int × List Tb × Int × Int × Int × Int × Int × Unit → Tree (Exit × St):=fun ((),(),i,l,c0,c1,c2,c3,c4,()) => .cond ((l.drop i.toNat).any (dryT c1)) (.leaf (.ret,L_rCheckCaseL_0.st noU (((10:Int)),()))) (.leaf (.exit 0,L_rCheckCaseL_1.st noU ()))
def R_rCheckCaseL:LRun:=runOf 67 L_rCheckCaseL (fun x => x) (inv_rCheckCaseL) (O_rCheckCaseL)
theorem K_rCheckCaseL:LoopOk P [] 67 none noU C_rCheckCaseL (R_rCheckCaseL):=by
  refine loop_of hm (cx:=[c_rWet.gc]) [] (xl:=X_rCheckCaseL) (α:=Unit × Unit × Int × List Tb × Int × Int × Int × Int × Int × Unit) (fun x => x) (fun ((),(),i,l,c0,c1,c2,c3,c4,()) => ((l.length:Int) - i).toNat) (fun _ => rfl) (by kernel_rfl) (by kernel_rfl) ?_ (by kernel_rfl) trivial ?_
  · intro e S L' h
    unfold X_rCheckCaseL at h
    split at h <;> first | (cases h; done) | (cases h; kernel_rfl) | (rcases bif_some h with h | h <;> cases h <;> kernel_rfl)
  · rintro ⟨⟨⟩,⟨⟩,i,l,c0,c1,c2,c3,c4,⟨⟩⟩ hinv Q hQ
    refine hold_of_eq (B_rCheckCaseL i l c0 c1 c2 c3 c4) ?_
    obtain ⟨h0,h1,h2⟩:=hinv
    rw [W_id (n:=i + 1) (by omega) (by omega)]
    unfold O_rCheckCaseL at hQ
    dsimp only at hQ
    refine ⟨fun d1 => ?_,fun d1 => ?_⟩
    · have d1:=of_decide_eq_true d1
      rw [drop_step zT h0 d1,List.any_cons] at hQ
      refine ⟨⟨h0,d1⟩,fun d2 => ?_,fun d2 => ?_⟩
      · have e:dryT c1 (l.getD i.toNat zT) = true:=d2
        rw [e,Bool.true_or] at hQ
        exact hQ.1 rfl
      · have e:dryT c1 (l.getD i.toNat zT) = false:=d2
        rw [e,Bool.false_or] at hQ
        exact ⟨⟨⟨by omega,by omega,h2⟩,by show ((l.length:Int) - (i + 1)).toNat < ((l.length:Int) - i).toNat; omega⟩,hQ⟩
    · have d1:=of_decide_eq_false d1
      rw [drop_end d1] at hQ
      exact hQ.2 rfl
theorem T_rCheckCase (l_0:List Tb) (c_0 c_1 c_2 c_3 c_4:Int):fnTree (P:=P) [c_rTCheck.gc,c_between.gc] (lpOf [(0,R_rCheckCaseL)]) Tryz.f15 (encL 0 [.agg tTs,.agg (.pair tI (.pair tI (.pair tPart tI)))] (l_0,(c_0,(c_1,((c_2,c_3),c_4))),())) =
  Tree.cond (checkT l_0 != (0:Int)) (.leaf (SV.int IntKind.i64 (checkT l_0))) (.cond (decide (c_0 < (1:Int))) (.leaf (SV.int IntKind.i64 (4:Int))) (.cond (decide (c_0 > (3:Int))) (.leaf (SV.int IntKind.i64 (4:Int))) (.cond (!wi c_1 (0:Int) (40000:Int)) (.leaf (SV.int IntKind.i64 (2:Int))) (.cond (decide (c_2 < (0:Int))) (.leaf (SV.int IntKind.i64 (2:Int))) (.cond (decide (c_2 > c_3)) (.leaf (SV.int IntKind.i64 (2:Int))) (.cond (decide (c_3 > (600:Int))) (.leaf (SV.int IntKind.i64 (2:Int))) (.cond (!wi c_4 (0:Int) (1099511627776:Int)) (.leaf (SV.int IntKind.i64 (2:Int))) (.need (inv_rCheckCaseL ((),(),(0:Int),l_0,c_0,c_1,c_2,c_3,c_4,())) (.cond (List.any (List.drop (Int.toNat (0:Int)) l_0) (dryT c_1)) (.leaf (SV.int IntKind.i64 (10:Int))) (.leaf (SV.int IntKind.i64 (0:Int)))))))))))):=by kernel_rfl
def c_rCheckCase:PC P:=PC.of (α:=List Tb × (Int × (Int × ((Int × Int) × Int))) × Unit) 15 [.agg tTs,.agg (.pair tI (.pair tI (.pair tPart tI)))] (fun x => x) (fun x => x) (fun _ => rfl)
  (fun x => some ((x.1.length:Int) < 2 ^ 62))
  (fun x => .int .i64 (caseS x.1 x.2.1)) (by kernel_rfl) (by
    rintro ⟨l_0,⟨c_0,⟨c_1,⟨⟨c_2,c_3⟩,c_4⟩⟩⟩,⟨⟩⟩ hp
    refine fn_of hm (by kernel_rfl) (by kernel_rfl) (T_rCheckCase l_0 c_0 c_1 c_2 c_3 c_4) ⟨K_rCheckCaseL,trivial⟩ ?_
    try dsimp only at hp
    try dsimp only
    have h62:(l_0.length:Int) < 2 ^ 62:=hp
    have e:(fun t => decide (wetS t c_1 ≤ 0)) = dryT c_1:=rfl
    unfold caseS
    dsimp only
    rw [e]
    refine ⟨fun d1 => ?_,fun d1 => ⟨fun d2 => ?_,fun d2 => ⟨fun d3 => ?_,fun d3 => ⟨fun d4 => ?_,fun d4 => ⟨fun d5 => ?_,fun d5 => ⟨fun d6 => ?_,fun d6 => ⟨fun d7 => ?_,fun d7 => ⟨fun d8 => ?_,fun d8 => ⟨⟨by decide,by omega,h62⟩,fun d9 => ?_,fun d9 => ?_⟩⟩⟩⟩⟩⟩⟩⟩⟩
    all_goals simp only [bne_iff_ne,bne_eq_false_iff_eq,ne_eq,decide_eq_true_eq,decide_eq_false_iff_not,Bool.not_eq_true',Bool.not_eq_false'] at *
    · rw [if_pos d1]; exact rfl
    all_goals rw [if_neg (by simp [d1])]
    · rw [if_pos (.inl d2)]; exact rfl
    · rw [if_pos (.inr d3)]; exact rfl
    all_goals rw [if_neg (by omega)]
    · rw [if_pos (.inl d4)]; exact rfl
    · rw [if_pos (.inr (.inl d5))]; exact rfl
    · rw [if_pos (.inr (.inr (.inl d6)))]; exact rfl
    · rw [if_pos (.inr (.inr (.inr (.inl d7))))]; exact rfl
    · rw [if_pos (.inr (.inr (.inr (.inr d8))))]; exact rfl
    all_goals rw [if_neg (by rintro (h | h | h | h | h) <;> first | omega | (rw [h] at d4; cases d4) | (rw [h] at d8; cases d8))]
    · have d9:l_0.any (dryT c_1) = true:=d9
      rw [if_pos d9]; exact rfl
    · have d9:l_0.any (dryT c_1) = false:=d9
      rw [if_neg (by rw [d9]; exact Bool.false_ne_true)]; exact rfl)
theorem T_rasks (l_0:List Tb) (p_0 p_1 p_2:Int) (p_3:List V) (c_0 c_1 c_2 c_3 c_4:Int):fnTree (P:=P) [c_rFits.gc,c_rCheckCase.gc] (lpOf []) Tryz.f37 (encL 0 [.agg tTs,.agg (.pair tV tVs),.agg (.pair tI (.pair tI (.pair tPart tI)))] (l_0,((p_0,(p_1,p_2)),p_3),(c_0,(c_1,((c_2,c_3),c_4))),())) =
  Tree.cond (fitsS l_0 ((p_0,p_1,p_2),p_3) != (0:Int)) (.leaf (SV.int IntKind.i64 (fitsS l_0 ((p_0,p_1,p_2),p_3)))) (.need ((l_0.length:Int) < (2:Int) ^ (62:Nat)) (.leaf (SV.int IntKind.i64 (caseS l_0 (c_0,c_1,(c_2,c_3),c_4))))):=by kernel_rfl
def c_rasks:PC P:=PC.of (α:=List Tb × (V × List V) × (Int × (Int × ((Int × Int) × Int))) × Unit) 37 [.agg tTs,.agg (.pair tV tVs),.agg (.pair tI (.pair tI (.pair tPart tI)))] (fun x => x) (fun x => x) (fun _ => rfl)
  (fun x => some ((x.1.length:Int) < 2 ^ 62))
  (fun x => .int .i64 (if fitsS x.1 x.2.1 ≠ 0 then fitsS x.1 x.2.1 else caseS x.1 x.2.2.1)) (by kernel_rfl) (by
    rintro ⟨l_0,⟨⟨p_0,⟨p_1,p_2⟩⟩,p_3⟩,⟨c_0,⟨c_1,⟨⟨c_2,c_3⟩,c_4⟩⟩⟩,⟨⟩⟩ hp
    refine fn_of hm (by kernel_rfl) (by kernel_rfl) (T_rasks l_0 p_0 p_1 p_2 p_3 c_0 c_1 c_2 c_3 c_4) trivial ?_
    try dsimp only at hp
    try dsimp only
    have h62:(l_0.length:Int) < 2 ^ 62:=hp
    refine ⟨fun d1 => ?_,fun d1 => ⟨h62,?_⟩⟩
    · rw [if_pos (by simpa using d1)]; exact rfl
    · rw [if_neg (by simpa using d1)]; exact rfl)
theorem T_rLoads (l_0:List Tb) (p_0 p_1 p_2:Int) (p_3:List V) (c_0 c_1 c_2 c_3 c_4:Int):fnTree (P:=P) [c_rasks.gc,c_rloads.gc] (lpOf []) Tryz.f13 (encL 0 [.agg tTs,.agg (.pair tV tVs),.agg (.pair tI (.pair tI (.pair tPart tI)))] (l_0,((p_0,(p_1,p_2)),p_3),(c_0,(c_1,((c_2,c_3),c_4))),())) =
  Tree.need ((l_0.length:Int) < (2:Int) ^ (62:Nat)) (.cond ((if fitsS l_0 ((p_0,p_1,p_2),p_3) ≠ (0:Int) then fitsS l_0 ((p_0,p_1,p_2),p_3) else caseS l_0 (c_0,c_1,(c_2,c_3),c_4)) != (0:Int)) (.leaf (SV.tup [SV.nils,SV.int IntKind.i64 (if fitsS l_0 ((p_0,p_1,p_2),p_3) ≠ (0:Int) then fitsS l_0 ((p_0,p_1,p_2),p_3) else caseS l_0 (c_0,c_1,(c_2,c_3),c_4))])) (.need (fitsS l_0 ((p_0,p_1,p_2),p_3) = (0:Int) ∧ caseS l_0 (c_0,c_1,(c_2,c_3),c_4) = (0:Int)) (.cond (!decide ((loadsS l_0 ((p_0,p_1,p_2),p_3) (c_0,c_1,(c_2,c_3),c_4)).snd.snd = (0:Int))) (.leaf (SV.tup [SV.nils,SV.int IntKind.i64 (2:Int)])) (.leaf (SV.tup [SV.sl (Ty.pair tI (Ty.pair tPart tPart)) (loadsS l_0 ((p_0,p_1,p_2),p_3) (c_0,c_1,(c_2,c_3),c_4)).fst,SV.int IntKind.i64 (0:Int)]))))):=by kernel_rfl
def c_rLoads:PC P:=PC.of (α:=List Tb × (V × List V) × (Int × (Int × ((Int × Int) × Int))) × Unit) 13 [.agg tTs,.agg (.pair tV tVs),.agg (.pair tI (.pair tI (.pair tPart tI)))] (fun x => x) (fun x => x) (fun _ => rfl)
  (fun x => some ((x.1.length:Int) < 2 ^ 62))
  (fun x => .tup [.sl tHg (loadsS x.1 x.2.1 x.2.2.1).1,.int .i64 (loadsS x.1 x.2.1 x.2.2.1).2.2]) (by kernel_rfl) (by
    rintro ⟨l_0,⟨⟨p_0,⟨p_1,p_2⟩⟩,p_3⟩,⟨c_0,⟨c_1,⟨⟨c_2,c_3⟩,c_4⟩⟩⟩,⟨⟩⟩ hp
    refine fn_le hm (by kernel_rfl) (by kernel_rfl) (T_rLoads l_0 p_0 p_1 p_2 p_3 c_0 c_1 c_2 c_3 c_4) trivial (by kernel_rfl) ?_
    try dsimp only at hp
    try dsimp only
    have h62:(l_0.length:Int) < 2 ^ 62:=hp
    generalize (c_0,c_1,(c_2,c_3),c_4) = C
    generalize ((p_0,p_1,p_2),p_3) = P
    refine ⟨h62,fun d1 => ?_,fun d1 => ?_⟩
    · unfold loadsS
      by_cases d2:fitsS l_0 P ≠ 0
      · rw [if_pos d2,if_pos d2]; exact ⟨rfl,rfl,trivial⟩
      · rw [if_neg d2] at d1
        rw [if_neg d2,if_neg d2,if_pos (by simpa using d1)]; exact ⟨rfl,rfl,trivial⟩
    · have d2:¬ fitsS l_0 P ≠ 0:=by
        intro h
        rw [if_pos h] at d1
        exact absurd d1 (by simpa using h)
      rw [if_neg d2] at d1
      have hf:fitsS l_0 P = 0:=by simpa using d2
      have hc:caseS l_0 C = 0:=by simpa using d1
      refine ⟨⟨hf,hc⟩,fun d3 => ?_,fun d3 => ?_⟩
      · rw [loadsS_eq hf hc] at d3 ⊢
        split at d3
        · cases d3
        · rename_i h; rw [if_neg h]; exact ⟨rfl,rfl,trivial⟩
      · have e:(loadsS l_0 P C).2.2 = 0:=by simpa using d3
        rw [e]; exact ⟨rfl,rfl,trivial⟩)
def L_rStrongL:Lay:={ slots:=[(3,.ptr 4063 0),(9,.val (.sl (.pair tI (.pair tPart tPart)))),(11,.val (.sl (.pair tI tV))),(12,.val tI)],boxes:=[(4063,[.val tTs])] }
def L_rStrongL_0:Lay:={ slots:=[(6,.val .bool),(7,.val tI),(8,.val tI)] }
def L_rStrongL_1:Lay:={ slots:=[] }
def X_rStrongL:Exit → St → Option Lay
  | .ret,_ => some L_rStrongL_0
  | .exit 0,_ => some L_rStrongL_1
  | _,_ => none
abbrev C_rStrongL:Code:=loopC (bodyOf Tryz.f20) 0
theorem B_rStrongL (a:List (Int × ((Int × Int) × (Int × Int)))) (m:List (Int × V)) (i:Int) (l:List Tb):loopBodyA (P:=P) [] (lpOf []) [] 63 noU (inner C_rStrongL) L_rStrongL X_rStrongL (α:=Unit × List (Int × ((Int × Int) × (Int × Int))) × List (Int × V) × Int × List Tb × Unit) (fun x => x) (fun x => x) ((),a,m,i,l,()) =
  Tree.cond (decide (i < (a.length:Int))) (.need ((0:Int) ≤ i ∧ i < (m.length:Int)) (.need ((0:Int) ≤ (List.getD m (Int.toNat i) (0,0,0,0)).fst ∧ (List.getD m (Int.toNat i) (0,0,0,0)).fst < (l.length:Int)) (.need ((0:Int) ≤ i ∧ i < (a.length:Int)) (.cond (decide ((List.getD a (Int.toNat i) (0,(0,0),0,0)).snd.fst.snd > (List.getD l (Int.toNat (List.getD m (Int.toNat i) ((0:Int),(0:Int),(0:Int),(0:Int))).fst) (0,0,0,0,0,0,0,0,0)).snd.snd.snd.snd.snd.fst)) (.leaf (Sum.inr (Exit.ret,Lay.st L_rStrongL_0 noU (false,i,(0:Int),())))) (.need ((0:Int) ≤ i ∧ i < (a.length:Int)) (.cond (decide ((List.getD a (Int.toNat i) (0,(0,0),0,0)).snd.snd.snd > (List.getD l (Int.toNat (List.getD m (Int.toNat i) ((0:Int),(0:Int),(0:Int),(0:Int))).fst) (0,0,0,0,0,0,0,0,0)).snd.snd.snd.snd.snd.snd.fst)) (.leaf (Sum.inr (Exit.ret,Lay.st L_rStrongL_0 noU (false,i,(0:Int),())))) (.leaf (Sum.inl ((),a,m,IntKind.i64.wrap (i + (1:Int)),l,()))))))))) (.leaf (Sum.inr (Exit.exit (0:Nat),Lay.st L_rStrongL_1 noU ()))):=by kernel_rfl
def inv_rStrongL:Unit × List (Int × ((Int × Int) × (Int × Int))) × List (Int × V) × Int × List Tb × Unit → Prop:=fun ((),a,m,i,l,()) => 0 ≤ i ∧ i ≤ m.length ∧ m.length = a.length ∧ m.length ≤ 160 ∧ ∀ q ∈ m,0 ≤ q.1 ∧ q.1 < l.length
def O_rStrongL:Unit × List (Int × ((Int × Int) × (Int × Int))) × List (Int × V) × Int × List Tb × Unit → Tree (Exit × St):=fun ((),a,m,i,l,()) => .cond (strL l a (m.drop i.toNat) i) (.leaf (.exit 0,L_rStrongL_1.st noU ())) (.leaf (.ret,L_rStrongL_0.st noU ((false),(wkI l a (m.drop i.toNat) i),((0:Int)),())))
def R_rStrongL:LRun:=runOf 63 L_rStrongL (fun x => x) (inv_rStrongL) (O_rStrongL)
theorem K_rStrongL:LoopOk P [] 63 none noU C_rStrongL (R_rStrongL):=by
  refine loop_of hm (cx:=[]) [] (xl:=X_rStrongL) (α:=Unit × List (Int × ((Int × Int) × (Int × Int))) × List (Int × V) × Int × List Tb × Unit) (fun x => x) (fun ((),a,m,i,l,()) => ((m.length:Int) - i).toNat) (fun _ => rfl) (by kernel_rfl) (by kernel_rfl) ?_ (by kernel_rfl) trivial ?_
  · intro e S L' h
    unfold X_rStrongL at h
    split at h <;> first | (cases h; done) | (cases h; kernel_rfl) | (rcases bif_some h with h | h <;> cases h <;> kernel_rfl)
  · rintro ⟨⟨⟩,a,m,i,l,⟨⟩⟩ hinv Q hQ
    refine hold_of_eq (B_rStrongL a m i l) ?_
    obtain ⟨h0,h1,h2,h3,h4⟩:=hinv
    rw [W_id (n:=i + 1) (by omega) (by omega)]
    unfold O_rStrongL at hQ
    dsimp only at hQ
    refine ⟨fun c1 => ?_,fun c1 => ?_⟩
    · have c1:=of_decide_eq_true c1
      have c2:i < (m.length:Int):=by omega
      have hq:=h4 _ (mem_getD (d:=(0,0,0,0)) h0 c2)
      have i1:0 ≤ i ∧ i < (m.length:Int):=⟨h0,c2⟩
      have i2:0 ≤ i ∧ i < (a.length:Int):=by omega
      rw [strL_step h0 c2,wkI_step h0 c2] at hQ
      refine ⟨i1,hq,i2,fun d1 => ?_,fun d1 => ⟨i2,fun d2 => ?_,fun d2 => ?_⟩⟩
      · have w:weakH (pcT l (m.getD i.toNat (0,0,0,0))) (a.getD i.toNat (0,(0,0),(0,0))) = true:=by
          unfold weakH; rw [Bool.or_eq_true]; exact .inl d1
        rw [w,if_pos rfl] at hQ
        exact hQ.2 rfl
      · have w:weakH (pcT l (m.getD i.toNat (0,0,0,0))) (a.getD i.toNat (0,(0,0),(0,0))) = true:=by
          unfold weakH; rw [Bool.or_eq_true]; exact .inr d2
        rw [w,if_pos rfl] at hQ
        exact hQ.2 rfl
      · have w:weakH (pcT l (m.getD i.toNat (0,0,0,0))) (a.getD i.toNat (0,(0,0),(0,0))) = false:=by
          unfold weakH; rw [Bool.or_eq_false_iff]; exact ⟨d1,d2⟩
        rw [w,if_neg (show ¬ (false = true) by decide)] at hQ
        exact ⟨⟨⟨by omega,by omega,h2,h3,h4⟩,by show ((m.length:Int) - (i + 1)).toNat < ((m.length:Int) - i).toNat; omega⟩,hQ⟩
    · have c1:=of_decide_eq_false c1
      rw [drop_end (l:=m) (by omega)] at hQ
      exact hQ.1 rfl
theorem T_rStrong (l_0:List Tb) (p_0 p_1 p_2:Int) (p_3:List V) (c_0 c_1 c_2 c_3 c_4:Int):fnTree (P:=P) [c_rLoads.gc,c_rPieces.gc] (lpOf [(0,R_rStrongL)]) Tryz.f20 (encL 0 [.agg tTs,.agg (.pair tV tVs),.agg (.pair tI (.pair tI (.pair tPart tI)))] (l_0,((p_0,(p_1,p_2)),p_3),(c_0,(c_1,((c_2,c_3),c_4))),())) =
  Tree.need ((l_0.length:Int) < (2:Int) ^ (62:Nat)) (.cond ((loadsS l_0 ((p_0,p_1,p_2),p_3) (c_0,c_1,(c_2,c_3),c_4)).snd.snd != (0:Int)) (.leaf (SV.tup [SV.bool false,SV.int IntKind.i64 (0:Int),SV.int IntKind.i64 (loadsS l_0 ((p_0,p_1,p_2),p_3) (c_0,c_1,(c_2,c_3),c_4)).snd.snd])) (.need (inv_rStrongL ((),(loadsS l_0 ((p_0,p_1,p_2),p_3) (c_0,c_1,(c_2,c_3),c_4)).fst,pcsS l_0 ((p_0,p_1,p_2),p_3),(0:Int),l_0,())) (.cond (strL l_0 (loadsS l_0 ((p_0,p_1,p_2),p_3) (c_0,c_1,(c_2,c_3),c_4)).fst (List.drop (Int.toNat (0:Int)) (pcsS l_0 ((p_0,p_1,p_2),p_3))) (0:Int)) (.leaf (SV.tup [SV.bool true,SV.int IntKind.i64 (-1:Int),SV.int IntKind.i64 (0:Int)])) (.leaf (SV.tup [SV.bool false,SV.int IntKind.i64 (wkI l_0 (loadsS l_0 ((p_0,p_1,p_2),p_3) (c_0,c_1,(c_2,c_3),c_4)).fst (List.drop (Int.toNat (0:Int)) (pcsS l_0 ((p_0,p_1,p_2),p_3))) (0:Int)),SV.int IntKind.i64 (0:Int)]))))):=by kernel_rfl
def c_rStrong:PC P:=PC.of (α:=List Tb × (V × List V) × (Int × (Int × ((Int × Int) × Int))) × Unit) 20 [.agg tTs,.agg (.pair tV tVs),.agg (.pair tI (.pair tI (.pair tPart tI)))] (fun x => x) (fun x => x) (fun _ => rfl)
  (fun x => some ((x.1.length:Int) < 2 ^ 62))
  (fun x => .tup [.bool (strongS x.1 x.2.1 x.2.2.1).1,.int .i64 (strongS x.1 x.2.1 x.2.2.1).2.1,.int .i64 (strongS x.1 x.2.1 x.2.2.1).2.2]) (by kernel_rfl) (by
    rintro ⟨l_0,⟨⟨p_0,⟨p_1,p_2⟩⟩,p_3⟩,⟨c_0,⟨c_1,⟨⟨c_2,c_3⟩,c_4⟩⟩⟩,⟨⟩⟩ hp
    refine fn_of hm (by kernel_rfl) (by kernel_rfl) (T_rStrong l_0 p_0 p_1 p_2 p_3 c_0 c_1 c_2 c_3 c_4) ⟨K_rStrongL,trivial⟩ ?_
    try dsimp only at hp
    try dsimp only
    have h62:(l_0.length:Int) < 2 ^ 62:=hp
    show Tree.holds (fun s => s = SV.tup [.bool (strongS l_0 ((p_0,p_1,p_2),p_3) (c_0,c_1,(c_2,c_3),c_4)).1,.int .i64 (strongS l_0 ((p_0,p_1,p_2),p_3) (c_0,c_1,(c_2,c_3),c_4)).2.1,.int .i64 (strongS l_0 ((p_0,p_1,p_2),p_3) (c_0,c_1,(c_2,c_3),c_4)).2.2]) _
    unfold strongS
    generalize (c_0,c_1,(c_2,c_3),c_4) = C
    generalize ((p_0,p_1,p_2),p_3) = P
    refine ⟨h62,fun d1 => ?_,fun d1 => ⟨?_,fun d2 => ?_,fun d2 => ?_⟩⟩
    · rw [if_pos (show (loadsS l_0 P C).2.2 ≠ 0 by simpa using d1)]; exact rfl
    · have e:(loadsS l_0 P C).2.2 = 0:=by simpa using d1
      obtain ⟨q1,q2⟩:=loads_ok0 e
      exact ⟨by decide,by omega,q1.symm,q2,fun q hq => pcsS_idx hq⟩
    · have e:(loadsS l_0 P C).2.2 = 0:=by simpa using d1
      have d2:strL l_0 (loadsS l_0 P C).1 (pcsS l_0 P) 0 = true:=d2
      rw [if_neg (fun h => h e),d2,if_pos rfl]; exact rfl
    · have e:(loadsS l_0 P C).2.2 = 0:=by simpa using d1
      have d2:strL l_0 (loadsS l_0 P C).1 (pcsS l_0 P) 0 = false:=d2
      rw [if_neg (fun h => h e),d2,if_neg (show ¬ (false = true) by decide)]; exact rfl)
def L_SameHgL:Lay:={ slots:=[(0,.val (.sl (.pair tI (.pair tPart tPart)))),(1,.val (.sl (.pair tI (.pair tPart tPart)))),(5,.val tI)] }
def L_SameHgL_0:Lay:={ slots:=[(4,.val .bool)] }
def L_SameHgL_1:Lay:={ slots:=[] }
def X_SameHgL:Exit → St → Option Lay
  | .ret,_ => some L_SameHgL_0
  | .exit 0,_ => some L_SameHgL_1
  | _,_ => none
abbrev C_SameHgL:Code:=loopC (bodyOf Tryz.f16) 0
theorem B_SameHgL (a b:List (Int × ((Int × Int) × (Int × Int)))) (i:Int):loopBodyA (P:=P) [] (lpOf []) [] 26 noU (inner C_SameHgL) L_SameHgL X_SameHgL (α:=List (Int × ((Int × Int) × (Int × Int))) × List (Int × ((Int × Int) × (Int × Int))) × Int × Unit) (fun x => x) (fun x => x) (a,b,i,()) =
  Tree.cond (decide (i < (a.length:Int))) (.need ((0:Int) ≤ i ∧ i < (a.length:Int)) (.need ((0:Int) ≤ i ∧ i < (b.length:Int)) (.cond (!((List.getD a (Int.toNat i) (0,(0,0),0,0)).fst == (List.getD b (Int.toNat i) (0,(0,0),0,0)).fst && ((List.getD a (Int.toNat i) (0,(0,0),0,0)).snd.fst.fst == (List.getD b (Int.toNat i) (0,(0,0),0,0)).snd.fst.fst && ((List.getD a (Int.toNat i) (0,(0,0),0,0)).snd.fst.snd == (List.getD b (Int.toNat i) (0,(0,0),0,0)).snd.fst.snd && true) && ((List.getD a (Int.toNat i) (0,(0,0),0,0)).snd.snd.fst == (List.getD b (Int.toNat i) (0,(0,0),0,0)).snd.snd.fst && ((List.getD a (Int.toNat i) (0,(0,0),0,0)).snd.snd.snd == (List.getD b (Int.toNat i) (0,(0,0),0,0)).snd.snd.snd && true) && true)))) (.leaf (Sum.inr (Exit.ret,Lay.st L_SameHgL_0 noU (false,())))) (.leaf (Sum.inl (a,b,IntKind.i64.wrap (i + (1:Int)),())))))) (.leaf (Sum.inr (Exit.exit (0:Nat),Lay.st L_SameHgL_1 noU ()))):=by kernel_rfl
def inv_SameHgL:List (Int × ((Int × Int) × (Int × Int))) × List (Int × ((Int × Int) × (Int × Int))) × Int × Unit → Prop:=fun (a,b,i,()) => 0 ≤ i ∧ i ≤ a.length ∧ a = b ∧ (a.length:Int) < 2 ^ 62
def O_SameHgL:List (Int × ((Int × Int) × (Int × Int))) × List (Int × ((Int × Int) × (Int × Int))) × Int × Unit → Tree (Exit × St):=fun (a,b,i,()) => (.leaf (.exit 0,L_SameHgL_1.st noU ()))
def R_SameHgL:LRun:=runOf 26 L_SameHgL (fun x => x) (inv_SameHgL) (O_SameHgL)
theorem K_SameHgL:LoopOk P [] 26 none noU C_SameHgL (R_SameHgL):=by
  refine loop_of hm (cx:=[]) [] (xl:=X_SameHgL) (α:=List (Int × ((Int × Int) × (Int × Int))) × List (Int × ((Int × Int) × (Int × Int))) × Int × Unit) (fun x => x) (fun (a,b,i,()) => (a.length - i).toNat) (fun _ => rfl) (by kernel_rfl) (by kernel_rfl) ?_ (by kernel_rfl) trivial ?_
  · intro e S L' h
    unfold X_SameHgL at h
    split at h <;> first | (cases h; done) | (cases h; kernel_rfl) | (rcases bif_some h with h | h <;> cases h <;> kernel_rfl)
  · rintro ⟨a,b,i,⟨⟩⟩ hinv Q hQ
    refine hold_of_eq (B_SameHgL a b i) ?_
    obtain ⟨h0,h1,rfl,h2⟩:=hinv
    rw [W_id (n:=i + 1) (by omega) (by omega)]
    refine ⟨fun c1 => ?_,fun c1 => hQ⟩
    have c1:=of_decide_eq_true c1
    exact ⟨⟨h0,c1⟩,⟨h0,c1⟩,fun c2 => absurd c2 (by simp),fun c2 => ⟨⟨⟨by omega,by omega,rfl,h2⟩,by show ((a.length:Int) - (i + 1)).toNat < ((a.length:Int) - i).toNat; omega⟩,hQ⟩⟩
theorem T_SameHangs (a b:List (Int × ((Int × Int) × (Int × Int)))):fnTree (P:=P) [] (lpOf [(0,R_SameHgL)]) Tryz.f16 (encL 0 [.val (.sl (.pair tI (.pair tPart tPart))),.val (.sl (.pair tI (.pair tPart tPart)))] (a,b,())) =
  Tree.cond ((a.length:Int) != (b.length:Int)) (.leaf (SV.bool false)) (.need (inv_SameHgL (a,b,(0:Int),())) (.leaf (SV.bool true))):=by kernel_rfl
def c_SameHangs:PC P:=PC.of (α:=List (Int × ((Int × Int) × (Int × Int))) × List (Int × ((Int × Int) × (Int × Int))) × Unit) 16 [.val (.sl (.pair tI (.pair tPart tPart))),.val (.sl (.pair tI (.pair tPart tPart)))] (fun x => x) (fun x => x) (fun _ => rfl)
  (fun x => some (x.1 = x.2.1 ∧ (x.1.length:Int) < 2 ^ 62))
  (fun x => .bool true) (by kernel_rfl) (by
    rintro ⟨a,b,⟨⟩⟩ hp
    refine fn_of hm (by kernel_rfl) (by kernel_rfl) (T_SameHangs a b) ⟨K_SameHgL,trivial⟩ ?_
    try dsimp only at hp
    try dsimp only
    obtain ⟨rfl,h1⟩ : a = b ∧ (a.length:Int) < 2 ^ 62:=hp
    exact ⟨fun c => absurd c (by simp),fun _ => ⟨⟨by decide,by omega,rfl,h1⟩,rfl⟩⟩)
end
end Go.MP
