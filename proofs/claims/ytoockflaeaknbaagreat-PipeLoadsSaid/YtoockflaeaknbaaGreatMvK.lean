/- Loads, and strings and cases made of numbers. -/
import Derived.Test.YtoockflaeaknbaaGreatMvJ
import Derived.Test.YtoockflaeaknbaaGreatMvR
namespace Go.MP
open Go Go.Sx Go.Proofs
set_option linter.unusedVariables false
set_option linter.unusedSimpArgs false
noncomputable section
def L_dry1:Lay:={ slots:=[(0,.agg tT),(1,.ptr 1 0)],boxes:=[(1,[.val tI,.val tI,.val tI,.val tI,.val tI])] }
theorem T_dry1 (t_0 t_1 t_2 t_3 t_4 t_5 t_6 t_7 t_8 a m b c d:Int):mTree (P:=P) [c_Wet.gc] (lpOf []) Tryz.f42 L_dry1 true ((t_0,(t_1,(t_2,(t_3,(t_4,(t_5,(t_6,(t_7,t_8)))))))),(),a,m,b,c,d,()) =
  Tree.leaf { res:=SV.bool (decide (wetS (t_0,t_1,t_2,t_3,t_4,t_5,t_6,t_7,t_8) m ≤ (0:Int))),boxes:=[[SV.int IntKind.i64 a,SV.int IntKind.i64 m,SV.int IntKind.i64 b,SV.int IntKind.i64 c,SV.int IntKind.i64 d]] }:=by kernel_rfl
def c_dry1:MC P:=MC.of (α:=Tb × Unit × Int × Int × Int × Int × Int × Unit) 42 L_dry1 (fun x => x) (fun x => x) (fun _ => rfl)
  (fun _ => none)
  (fun x => ⟨.bool (dryT x.2.2.2.1 x.1),[[.int .i64 x.2.2.1,.int .i64 x.2.2.2.1,.int .i64 x.2.2.2.2.1,.int .i64 x.2.2.2.2.2.1,.int .i64 x.2.2.2.2.2.2.1]],[]⟩) (by kernel_rfl) (by kernel_rfl) (by kernel_rfl) (by
    rintro ⟨⟨t_0,⟨t_1,⟨t_2,⟨t_3,⟨t_4,⟨t_5,⟨t_6,⟨t_7,t_8⟩⟩⟩⟩⟩⟩⟩⟩,⟨⟩,a,m,b,c,d,⟨⟩⟩ hp
    refine m_of hm (own:=true) (by kernel_rfl) (by kernel_rfl) (by kernel_rfl) (T_dry1 t_0 t_1 t_2 t_3 t_4 t_5 t_6 t_7 t_8 a m b c d) trivial ?_
    exact rfl)
def L_ixD0:Lay:={ slots:=[(0,.val (.sl tT)),(1,.clo 42 [(1,0)])],boxes:=[(1,[.val tI,.val tI,.val tI,.val tI,.val tI])] }
def L_ixDL:Lay:={ slots:=[(0,.val (.sl tT)),(1,.clo 42 [(1,0)]),(7,.val tI),(8,.val tI)],boxes:=[(1,[.val tI,.val tI,.val tI,.val tI,.val tI])] }
def L_ixDL_0:Lay:={ slots:=[],boxes:=[(1,[.val tI,.val tI,.val tI,.val tI,.val tI])] }
def L_ixDL_1:Lay:={ slots:=[(4,.val tI)],boxes:=[(1,[.val tI,.val tI,.val tI,.val tI,.val tI])] }
def X_ixDL:Exit → St → Option Lay
  | .exit 0,_ => some L_ixDL_0
  | .ret,_ => some L_ixDL_1
  | _,_ => none
abbrev C_ixDL:Code:=loopC (bodyOf Tryz.f76) 0
theorem B_ixDL (l:List Tb) (n i:Int) (a m b c d:Int):loopBodyA (P:=P) [c_dry1.gc] (lpOf []) [] 19 (usd noU (L_ixD0.ids ++ rowIds rowBase L_ixD0.shs)) (inner C_ixDL) L_ixDL X_ixDL (α:=List Tb × Unit × Int × Int × Int × Int × Int × Int × Int × Unit) (fun x => x) (fun x => x) (l,(),n,i,a,m,b,c,d,()) =
  Tree.cond (decide (i < n)) (.need ((0:Int) ≤ i ∧ i < (l.length:Int)) (.cond (dryT m (List.getD l (Int.toNat i) (0,0,0,0,0,0,0,0,0))) (.leaf (Sum.inr (Exit.ret,Lay.st L_ixDL_1 (usd noU (Lay.ids L_ixD0 ++ rowIds rowBase (Lay.shs L_ixD0))) (i,a,m,b,c,d,())))) (.leaf (Sum.inl (l,(),n,IntKind.i64.wrap (i + (1:Int)),a,m,b,c,d,()))))) (.leaf (Sum.inr (Exit.exit (0:Nat),Lay.st L_ixDL_0 (usd noU (Lay.ids L_ixD0 ++ rowIds rowBase (Lay.shs L_ixD0))) (a,m,b,c,d,())))):=by kernel_rfl
def inv_ixDL:List Tb × Unit × Int × Int × Int × Int × Int × Int × Int × Unit → Prop:=fun (l,_,n,i,a,m,b,c,d,_) => n = l.length ∧ 0 ≤ i ∧ i ≤ n ∧ (l.length:Int) < 2 ^ 62
def O_ixDL:List Tb × Unit × Int × Int × Int × Int × Int × Int × Int × Unit → Tree (Exit × St):=fun (l,_,n,i,a,m,b,c,d,_) => .cond ((l.drop i.toNat).any (dryT m)) (.leaf (.ret,L_ixDL_1.st (usd noU (L_ixD0.ids ++ rowIds rowBase L_ixD0.shs)) (ixR (dryT m) l i,a,m,b,c,d,()))) (.leaf (.exit 0,L_ixDL_0.st (usd noU (L_ixD0.ids ++ rowIds rowBase L_ixD0.shs)) (a,m,b,c,d,())))
def R_ixDL:LRun:=runOf 19 L_ixDL (fun x => x) (inv_ixDL) (O_ixDL)
theorem K_ixDL:LoopOk P [] 19 none (usd noU (L_ixD0.ids ++ rowIds rowBase L_ixD0.shs)) C_ixDL (R_ixDL):=by
  refine loop_of hm (cx:=[c_dry1.gc]) [] (xl:=X_ixDL) (α:=List Tb × Unit × Int × Int × Int × Int × Int × Int × Int × Unit) (fun x => x) (fun (l,_,n,i,a,m,b,c,d,_) => (n - i).toNat) (fun _ => rfl) (by kernel_rfl) (by kernel_rfl) ?_ (by kernel_rfl) trivial ?_
  · intro e S L' h
    unfold X_ixDL at h
    split at h <;> first | (cases h; done) | (cases h; kernel_rfl) | (rcases bif_some h with h | h <;> cases h <;> kernel_rfl)
  · rintro ⟨l,⟨⟩,n,i,a,m,b,c,d,⟨⟩⟩ hinv Q hQ
    refine hold_of_eq (B_ixDL l n i a m b c d) ?_
    obtain ⟨rfl,h0,h1,h2⟩:=hinv
    rw [W_id (n:=i + 1) (by omega) (by omega)]
    unfold O_ixDL at hQ
    dsimp only at hQ
    refine ⟨fun hi => ?_,fun hi => ?_⟩
    · simp only [decide_eq_true_eq] at hi
      have hm:((l.length:Int) - (i + 1)).toNat < ((l.length:Int) - i).toNat:=by omega
      obtain ⟨e1,e2,e3⟩:=ix_step (p:=dryT m) (zT:Tb) h0 hi
      rw [e1] at hQ
      refine ⟨⟨h0,hi⟩,fun hp => ?_,fun hp => ?_⟩
      · replace hp:(dryT m) (l.getD i.toNat (zT:Tb)) = true:=hp
        rw [hp,Bool.true_or,e2 hp] at hQ
        exact hQ.1 rfl
      · replace hp:(dryT m) (l.getD i.toNat (zT:Tb)) = false:=hp
        rw [hp,Bool.false_or,e3 hp] at hQ
        exact ⟨⟨⟨rfl,by omega,by omega,h2⟩,hm⟩,hQ⟩
    · simp only [decide_eq_false_iff_not] at hi
      rw [drop_end hi] at hQ
      exact hQ.2 rfl
def L_ixD:Lay:={ slots:=[(0,.val (.sl tT)),(1,.clo 42 [(1,0)])],boxes:=[(1,[.val tI,.val tI,.val tI,.val tI,.val tI])] }
theorem T_ixD (l:List Tb) (a m b c d:Int):mTree (P:=P) [] (lpOf [(0,R_ixDL)]) Tryz.f76 L_ixD true (l,(),a,m,b,c,d,()) =
  Tree.need (inv_ixDL (l,(),(l.length:Int),(0:Int),a,m,b,c,d,())) (.cond (List.any (List.drop (Int.toNat (0:Int)) l) (dryT m)) (.leaf { res:=SV.int IntKind.i64 (ixR (dryT m) l (0:Int)),boxes:=[[SV.int IntKind.i64 a,SV.int IntKind.i64 m,SV.int IntKind.i64 b,SV.int IntKind.i64 c,SV.int IntKind.i64 d]] }) (.leaf { res:=SV.int IntKind.i64 (-1:Int),boxes:=[[SV.int IntKind.i64 a,SV.int IntKind.i64 m,SV.int IntKind.i64 b,SV.int IntKind.i64 c,SV.int IntKind.i64 d]] })):=by kernel_rfl
def c_ixD:MC P:=MC.of (α:=List Tb × Unit × Int × Int × Int × Int × Int × Unit) 76 L_ixD (fun x => x) (fun x => x) (fun _ => rfl)
  (fun (l,_,a,m,b,c,d,_) => some ((l.length:Int) < 2 ^ 62))
  (fun (l,_,a,m,b,c,d,_) => ⟨.int .i64 (ixS (dryT m) l),[[.int .i64 a,.int .i64 m,.int .i64 b,.int .i64 c,.int .i64 d]],[]⟩) (by kernel_rfl) (by kernel_rfl) (by kernel_rfl) (by
    rintro ⟨l,⟨⟩,a,m,b,c,d,⟨⟩⟩ hp
    refine m_of hm (own:=true) (by kernel_rfl) (by kernel_rfl) (by kernel_rfl) (T_ixD l a m b c d) ⟨K_ixDL,trivial⟩ ?_
    refine ⟨⟨rfl,by omega,by omega,hp⟩,fun h => ?_,fun h => ?_⟩
    · simp only [Int.toNat_zero,List.drop_zero] at h
      have e:ixR (dryT m) l 0 = ixS (dryT m) l:=by
        unfold ixS ixR
        rw [if_pos h]
        simp only [Int.toNat_zero,List.drop_zero,Int.zero_add]
      exact congrArg (fun k:Int => (⟨.int .i64 k,[[.int .i64 a,.int .i64 m,.int .i64 b,.int .i64 c,.int .i64 d]],[]⟩ : MOut)) e
    · simp only [Int.toNat_zero,List.drop_zero] at h
      have e : -1 = ixS (dryT m) l:=by
        unfold ixS
        rw [if_neg (by simp only [h]; decide)]
      exact congrArg (fun k:Int => (⟨.int .i64 k,[[.int .i64 a,.int .i64 m,.int .i64 b,.int .i64 c,.int .i64 d]],[]⟩ : MOut)) e)
def L_ixDC:Lay:={ slots:=[(0,.val (.sl tT)),(1,.clo 42 [(1,0)])],boxes:=[(1,[.val tI,.val tI,.val tI,.val tI,.val tI])] }
theorem T_ixDC (l:List Tb) (a m b c d:Int):mTree (P:=P) [c_ixD.gc] (lpOf []) Tryz.f41 L_ixDC true (l,(),a,m,b,c,d,()) =
  Tree.need ((l.length:Int) < (2:Int) ^ (62:Nat)) (.leaf { res:=SV.bool (decide (ixS (dryT m) l ≥ (0:Int))),boxes:=[[SV.int IntKind.i64 a,SV.int IntKind.i64 m,SV.int IntKind.i64 b,SV.int IntKind.i64 c,SV.int IntKind.i64 d]] }):=by kernel_rfl
def c_ixDC:MC P:=MC.of (α:=List Tb × Unit × Int × Int × Int × Int × Int × Unit) 41 L_ixDC (fun x => x) (fun x => x) (fun _ => rfl)
  (fun (l,_,a,m,b,c,d,_) => some ((l.length:Int) < 2 ^ 62))
  (fun (l,_,a,m,b,c,d,_) => ⟨.bool (l.any (dryT m)),[[.int .i64 a,.int .i64 m,.int .i64 b,.int .i64 c,.int .i64 d]],[]⟩) (by kernel_rfl) (by kernel_rfl) (by kernel_rfl) (by
    rintro ⟨l,⟨⟩,a,m,b,c,d,⟨⟩⟩ hp
    refine m_of hm (own:=true) (by kernel_rfl) (by kernel_rfl) (by kernel_rfl) (T_ixDC l a m b c d) trivial ?_
    exact ⟨hp,congrArg (fun k:Bool => (⟨.bool k,[[.int .i64 a,.int .i64 m,.int .i64 b,.int .i64 c,.int .i64 d]],[]⟩ : MOut)) (ixS_ge (dryT m) l)⟩)
theorem T_CheckCase (l_0:List Tb) (c_0 c_1 c_2 c_3 c_4:Int):fnTree (P:=P) [c_TCheck.gc,c_twithin.gc,c_ixDC.gc] (lpOf []) Tryz.f14 (encL 0 [.agg tTs,.agg (.pair tI (.pair tI (.pair tPart tI)))] (l_0,(c_0,(c_1,((c_2,c_3),c_4))),())) =
  Tree.need ((l_0.length:Int) < (2:Int) ^ (62:Nat)) (.cond (checkT l_0 != (0:Int)) (.leaf (SV.int IntKind.i64 (checkT l_0))) (.cond (decide (c_0 < (1:Int))) (.leaf (SV.int IntKind.i64 (4:Int))) (.cond (decide (c_0 > (3:Int))) (.leaf (SV.int IntKind.i64 (4:Int))) (.cond (!wi c_1 (0:Int) (40000:Int)) (.leaf (SV.int IntKind.i64 (2:Int))) (.cond (decide (c_2 < (0:Int))) (.leaf (SV.int IntKind.i64 (2:Int))) (.cond (decide (c_2 > c_3)) (.leaf (SV.int IntKind.i64 (2:Int))) (.cond (decide (c_3 > (600:Int))) (.leaf (SV.int IntKind.i64 (2:Int))) (.cond (!wi c_4 (0:Int) (1099511627776:Int)) (.leaf (SV.int IntKind.i64 (2:Int))) (.need ((l_0.length:Int) < (2:Int) ^ (62:Nat)) (.cond (List.any l_0 (dryT c_1)) (.leaf (SV.int IntKind.i64 (10:Int))) (.leaf (SV.int IntKind.i64 (0:Int))))))))))))):=by kernel_rfl
def c_CheckCase:PC P:=PC.of (α:=List Tb × (Int × (Int × ((Int × Int) × Int))) × Unit) 14 [.agg tTs,.agg (.pair tI (.pair tI (.pair tPart tI)))] (fun x => x) (fun x => x) (fun _ => rfl)
  (fun x => some ((x.1.length:Int) < 2 ^ 62))
  (fun x => .int .i64 (caseS x.1 x.2.1)) (by kernel_rfl) (by
    rintro ⟨l_0,⟨c_0,⟨c_1,⟨⟨c_2,c_3⟩,c_4⟩⟩⟩,⟨⟩⟩ hp
    refine fn_of hm (by kernel_rfl) (by kernel_rfl) (T_CheckCase l_0 c_0 c_1 c_2 c_3 c_4) trivial ?_
    try dsimp only at hp
    try dsimp only
    have h62:(l_0.length:Int) < 2 ^ 62:=hp
    show Tree.holds (fun s => s = SV.int .i64 (caseS l_0 (c_0,c_1,(c_2,c_3),c_4))) _
    have e:(fun t => decide (wetS t c_1 ≤ 0)) = dryT c_1:=rfl
    unfold caseS
    dsimp only
    rw [e]
    refine ⟨h62,fun d1 => ?_,fun d1 => ⟨fun d2 => ?_,fun d2 => ⟨fun d3 => ?_,fun d3 => ⟨fun d4 => ?_,fun d4 => ⟨fun d5 => ?_,fun d5 => ⟨fun d6 => ?_,fun d6 => ⟨fun d7 => ?_,fun d7 => ⟨fun d8 => ?_,fun d8 => ⟨h62,fun d9 => ?_,fun d9 => ?_⟩⟩⟩⟩⟩⟩⟩⟩⟩
    all_goals simp only [bne_iff_ne,bne_eq_false_iff_eq,ne_eq,decide_eq_true_eq,decide_eq_false_iff_not,Bool.not_eq_true',Bool.not_eq_false'] at *
    · rw [if_pos d1]; exact rfl
    all_goals rw [if_neg (by simp [d1])]
    · rw [if_pos (.inl d2)]; exact rfl
    · rw [if_pos (.inr d3)]; exact rfl
    all_goals rw [if_neg (by omega)]
    · rw [if_pos (.inl d4)]; exact rfl
    · rw [if_pos (.inr (.inl d5))]; exact rfl
    · rw [if_pos (.inr (.inr (.inl d6)))]; exact rfl
    · rw [if_pos (.inr (.inr (.inr (.inl d7))))]; exact rfl
    · rw [if_pos (.inr (.inr (.inr (.inr d8))))]; exact rfl
    all_goals rw [if_neg (by rintro (h | h | h | h | h) <;> first | omega | (rw [h] at d4; cases d4) | (rw [h] at d8; cases d8))]
    · rw [if_pos d9]; exact rfl
    · rw [if_neg (by rw [d9]; exact Bool.false_ne_true)]; exact rfl)
theorem folS_eq (sl:List Tb) (p:Pth) (c:Cs):folS sl p c = if (runS sl p c (-1) (startS c) (pcsS sl p)).1 = true then (true,(runS sl p c (-1) (startS c) (pcsS sl p)).2.1,(runS sl p c (-1) (startS c) (pcsS sl p)).2.2) else (false,[],[]):=by
  obtain ⟨h1,h2⟩:=runF_S sl p c (pcsS sl p) (-1) (startS c) [] []
  unfold folS
  rw [h1]
  split
  · rename_i h
    obtain ⟨h3,h4⟩:=h2 h
    rw [h3,h4,List.nil_append,List.nil_append]
  · rfl
theorem T_loads (l_0:List Tb) (p_0 p_1 p_2:Int) (p_3:List V) (c_0 c_1 c_2 c_3 c_4:Int):fnTree (P:=P) [c_Fits.gc,c_CheckCase.gc,c_follow.gc] (lpOf []) Tryz.f36 (encL 0 [.agg tTs,.agg (.pair tV tVs),.agg (.pair tI (.pair tI (.pair tPart tI)))] (l_0,((p_0,(p_1,p_2)),p_3),(c_0,(c_1,((c_2,c_3),c_4))),())) =
  Tree.need ((l_0.length:Int) < (2:Int) ^ (62:Nat)) (.cond (fitsS l_0 ((p_0,p_1,p_2),p_3) != (0:Int)) (.leaf (SV.tup [SV.nils,SV.nils,SV.int IntKind.i64 (fitsS l_0 ((p_0,p_1,p_2),p_3))])) (.need ((l_0.length:Int) < (2:Int) ^ (62:Nat)) (.cond (caseS l_0 (c_0,c_1,(c_2,c_3),c_4) != (0:Int)) (.leaf (SV.tup [SV.nils,SV.nils,SV.int IntKind.i64 (caseS l_0 (c_0,c_1,(c_2,c_3),c_4))])) (.need (EnvOk l_0 ((p_0,p_1,p_2),p_3) (c_0,c_1,(c_2,c_3),c_4)) (.cond (!(folS l_0 ((p_0,p_1,p_2),p_3) (c_0,c_1,(c_2,c_3),c_4)).fst) (.leaf (SV.tup [SV.nils,SV.nils,SV.int IntKind.i64 (2:Int)])) (.leaf (SV.tup [SV.sl (Ty.pair tI (Ty.pair tPart tPart)) (folS l_0 ((p_0,p_1,p_2),p_3) (c_0,c_1,(c_2,c_3),c_4)).snd.fst,SV.sl (Ty.pair tI tI) (folS l_0 ((p_0,p_1,p_2),p_3) (c_0,c_1,(c_2,c_3),c_4)).snd.snd,SV.int IntKind.i64 (0:Int)]))))))):=by kernel_rfl
def c_loads:PC P:=PC.of (α:=List Tb × (V × List V) × (Int × (Int × ((Int × Int) × Int))) × Unit) 36 [.agg tTs,.agg (.pair tV tVs),.agg (.pair tI (.pair tI (.pair tPart tI)))] (fun x => x) (fun x => x) (fun _ => rfl)
  (fun x => some ((x.1.length:Int) < 2 ^ 62))
  (fun x => .tup [.sl tHg (loadsS x.1 x.2.1 x.2.2.1).1,.sl tPart (loadsS x.1 x.2.1 x.2.2.1).2.1,.int .i64 (loadsS x.1 x.2.1 x.2.2.1).2.2]) (by kernel_rfl) (by
    rintro ⟨l_0,⟨⟨p_0,⟨p_1,p_2⟩⟩,p_3⟩,⟨c_0,⟨c_1,⟨⟨c_2,c_3⟩,c_4⟩⟩⟩,⟨⟩⟩ hp
    refine fn_le hm (by kernel_rfl) (by kernel_rfl) (T_loads l_0 p_0 p_1 p_2 p_3 c_0 c_1 c_2 c_3 c_4) trivial (by kernel_rfl) ?_
    try dsimp only at hp
    try dsimp only
    have h62:(l_0.length:Int) < 2 ^ 62:=hp
    show Tree.holds (fun s => LeS s (SV.tup [.sl tHg (loadsS l_0 ((p_0,p_1,p_2),p_3) (c_0,c_1,(c_2,c_3),c_4)).1,.sl tPart (loadsS l_0 ((p_0,p_1,p_2),p_3) (c_0,c_1,(c_2,c_3),c_4)).2.1,.int .i64 (loadsS l_0 ((p_0,p_1,p_2),p_3) (c_0,c_1,(c_2,c_3),c_4)).2.2])) _
    unfold loadsS
    refine ⟨h62,fun d1 => ?_,fun d1 => ⟨h62,fun d2 => ?_,fun d2 => ⟨?_,fun d3 => ?_,fun d3 => ?_⟩⟩⟩
    all_goals simp only [bne_iff_ne,bne_eq_false_iff_eq,ne_eq,Bool.not_eq_true',Bool.not_eq_false'] at *
    · rw [if_pos d1]; exact ⟨rfl,rfl,rfl,trivial⟩
    all_goals try rw [if_neg (by simp [d1])]
    · rw [if_pos d2]; exact ⟨rfl,rfl,rfl,trivial⟩
    all_goals try rw [if_neg (by simp [d2])]
    · exact ⟨d1,(caseS_ok d2).2⟩
    · rw [folS_eq] at d3
      split at d3
      · cases d3
      · rename_i h
        rw [if_neg h]; exact ⟨rfl,rfl,rfl,trivial⟩
    · rw [folS_eq] at d3 ⊢
      split at d3
      · rename_i h
        simp only [if_pos h]
        exact ⟨rfl,rfl,rfl,trivial⟩
      · cases d3)
theorem T_Loads (l_0:List Tb) (p_0 p_1 p_2:Int) (p_3:List V) (c_0 c_1 c_2 c_3 c_4:Int):fnTree (P:=P) [c_loads.gc] (lpOf []) Tryz.f12 (encL 0 [.agg tTs,.agg (.pair tV tVs),.agg (.pair tI (.pair tI (.pair tPart tI)))] (l_0,((p_0,(p_1,p_2)),p_3),(c_0,(c_1,((c_2,c_3),c_4))),())) =
  Tree.need ((l_0.length:Int) < (2:Int) ^ (62:Nat)) (.leaf (SV.tup [SV.sl (Ty.pair tI (Ty.pair tPart tPart)) (loadsS l_0 ((p_0,p_1,p_2),p_3) (c_0,c_1,(c_2,c_3),c_4)).fst,SV.int IntKind.i64 (loadsS l_0 ((p_0,p_1,p_2),p_3) (c_0,c_1,(c_2,c_3),c_4)).snd.snd])):=by kernel_rfl
def c_Loads:PC P:=PC.of (α:=List Tb × (V × List V) × (Int × (Int × ((Int × Int) × Int))) × Unit) 12 [.agg tTs,.agg (.pair tV tVs),.agg (.pair tI (.pair tI (.pair tPart tI)))] (fun x => x) (fun x => x) (fun _ => rfl)
  (fun x => some ((x.1.length:Int) < 2 ^ 62))
  (fun x => .tup [.sl tHg (loadsS x.1 x.2.1 x.2.2.1).1,.int .i64 (loadsS x.1 x.2.1 x.2.2.1).2.2]) (by kernel_rfl) (by
    rintro ⟨l_0,⟨⟨p_0,⟨p_1,p_2⟩⟩,p_3⟩,⟨c_0,⟨c_1,⟨⟨c_2,c_3⟩,c_4⟩⟩⟩,⟨⟩⟩ hp
    refine fn_le hm (by kernel_rfl) (by kernel_rfl) (T_Loads l_0 p_0 p_1 p_2 p_3 c_0 c_1 c_2 c_3 c_4) trivial (by kernel_rfl) ?_
    try dsimp only at hp
    try dsimp only
    have h62:(l_0.length:Int) < 2 ^ 62:=hp
    exact ⟨h62,rfl,rfl,trivial⟩)
def shownT:List Tb:=[(10,1000,3000000,100,20,1099511627776,1099511627776,0,0),(60,1000,300000,30,13,1099511627776,1099511627776,0,0)]
def wayP:Pth:=((0,0,0),[(0,0,50000),(0,30000,40000)])
theorem T_shown (_:Unit):fnTree (P:=P) [] (lpOf []) Tryz.f25 (encL 0 [] ()) =
  Tree.leaf (SV.agg [SV.sl (Ty.pair (Ty.int IntKind.i64) (Ty.pair (Ty.int IntKind.i64) (Ty.pair (Ty.int IntKind.i64) (Ty.pair (Ty.int IntKind.i64) (Ty.pair (Ty.int IntKind.i64) (Ty.pair (Ty.int IntKind.i64) (Ty.pair (Ty.int IntKind.i64) (Ty.pair (Ty.int IntKind.i64) (Ty.int IntKind.i64))))))))) [((10:Int),(1000:Int),(3000000:Int),(100:Int),(20:Int),(1099511627776:Int),(1099511627776:Int),(0:Int),(0:Int)),((60:Int),(1000:Int),(300000:Int),(30:Int),(13:Int),(1099511627776:Int),(1099511627776:Int),(0:Int),(0:Int))]]):=by kernel_rfl
def c_shown:PC P:=PC.of (α:=Unit) 25 [] (fun x => x) (fun x => x) (fun _ => rfl)
  (fun _ => none)
  (fun x => .agg [.sl tT shownT]) (by kernel_rfl) (by
    rintro ⟨⟩ hp
    refine fn_of hm (by kernel_rfl) (by kernel_rfl) (T_shown ()) trivial ?_
    exact rfl)
theorem T_way (_:Unit):fnTree (P:=P) [] (lpOf []) Tryz.f26 (encL 0 [] ()) =
  Tree.leaf (SV.agg [SV.int IntKind.i64 (0:Int),SV.int IntKind.i64 (0:Int),SV.int IntKind.i64 (0:Int),SV.sl (Ty.pair (Ty.int IntKind.i64) (Ty.pair (Ty.int IntKind.i64) (Ty.int IntKind.i64))) [((0:Int),(0:Int),(50000:Int)),((0:Int),(30000:Int),(40000:Int))]]):=by kernel_rfl
def c_way:PC P:=PC.of (α:=Unit) 26 [] (fun x => x) (fun x => x) (fun _ => rfl)
  (fun _ => none)
  (fun x => .agg [.int .i64 0,.int .i64 0,.int .i64 0,.sl tV wayP.2]) (by kernel_rfl) (by
    rintro ⟨⟩ hp
    refine fn_of hm (by kernel_rfl) (by kernel_rfl) (T_way ()) trivial ?_
    exact rfl)
theorem awake2:(loadsS shownT wayP (1,0,(0,0),0)).1.length = 3:=by kernel_rfl
theorem T_awake (_:Unit):fnTree (P:=P) [c_shown.gc,c_way.gc,c_Loads.gc,c_TLength.gc] (lpOf []) Tryz.f6 (encL 0 [] ()) =
  Tree.need ((shownT.length:Int) < (2:Int) ^ (62:Nat)) (.cond true (.cond true (.need ((0:Int) ≤ (2:Int) ∧ (2:Int) < (↑(List.length (loadsS shownT (((0:Int),(0:Int),(0:Int)),wayP.snd) ((1:Int),(0:Int),((0:Int),(0:Int)),(0:Int))).fst):Int)) (.cond true (.need ((shownT.length:Int) < (2:Int) ^ (62:Nat)) (.leaf (SV.bool true))) (.leaf (SV.bool false)))) (.leaf (SV.bool false))) (.leaf (SV.bool false))):=by kernel_rfl
def c_awake:PC P:=PC.of (α:=Unit) 6 [] (fun x => x) (fun x => x) (fun _ => rfl)
  (fun _ => none)
  (fun x => .bool true) (by kernel_rfl) (by
    rintro ⟨⟩ hp
    refine fn_of hm (by kernel_rfl) (by kernel_rfl) (T_awake ()) trivial ?_
    try dsimp only at hp
    try dsimp only
    refine ⟨by decide,fun _ => ⟨fun _ => ⟨?_,fun _ => ⟨by decide,rfl⟩,fun h => (by cases h)⟩,fun h => (by cases h)⟩,fun h => (by cases h)⟩
    have e:loadsS shownT ((0,0,0),wayP.2) (1,0,(0,0),0) = loadsS shownT wayP (1,0,(0,0),0):=rfl
    rw [e,awake2]; decide)
def caseK (l:List Int) (k:Int):Cs:=(1 + nextS l k 3,nextS l (k + 1) 22001,(nextS l (k + 1 + 1 + 1 + 1) 300,nextS l (k + 1 + 1 + 1 + 1) 300 + nextS l (k + 1 + 1 + 1 + 1 + 1) 300),nextS l (k + 1 + 1) 3 * nextS l (k + 1 + 1 + 1) 1048576 * 1024)
def L_kCase:Lay:={ slots:=[(0,.ptr 1 0)],boxes:=[(1,[.val tIs,.val tI])] }
theorem T_kCase (l:List Int) (k:Int):mTree (P:=P) [c_Next.gc] (lpOf []) Tryz.f10 L_kCase true ((),l,k,()) =
  Tree.need ((0:Int) ≤ k ∧ k < (1099511627776:Int) ∧ (0:Int) < (3:Int)) (.need ((0:Int) ≤ k + (1:Int) ∧ k + (1:Int) < (1099511627776:Int) ∧ (0:Int) < (22001:Int)) (.need ((0:Int) ≤ k + (1:Int) + (1:Int) ∧ k + (1:Int) + (1:Int) < (1099511627776:Int) ∧ (0:Int) < (3:Int)) (.need ((0:Int) ≤ k + (1:Int) + (1:Int) + (1:Int) ∧ k + (1:Int) + (1:Int) + (1:Int) < (1099511627776:Int) ∧ (0:Int) < (1048576:Int)) (.need ((0:Int) ≤ (10:Int)) (.need ((0:Int) ≤ k + (1:Int) + (1:Int) + (1:Int) + (1:Int) ∧ k + (1:Int) + (1:Int) + (1:Int) + (1:Int) < (1099511627776:Int) ∧ (0:Int) < (300:Int)) (.need ((0:Int) ≤ k + (1:Int) + (1:Int) + (1:Int) + (1:Int) + (1:Int) ∧ k + (1:Int) + (1:Int) + (1:Int) + (1:Int) + (1:Int) < (1099511627776:Int) ∧ (0:Int) < (300:Int)) (.leaf { res:=SV.agg [SV.int IntKind.i64 (IntKind.i64.wrap ((1:Int) + nextS l k (3:Int))),SV.int IntKind.i64 (nextS l (k + (1:Int)) (22001:Int)),SV.int IntKind.i64 (nextS l (k + (1:Int) + (1:Int) + (1:Int) + (1:Int)) (300:Int)),SV.int IntKind.i64 (IntKind.i64.wrap (nextS l (k + (1:Int) + (1:Int) + (1:Int) + (1:Int)) (300:Int) + nextS l (k + (1:Int) + (1:Int) + (1:Int) + (1:Int) + (1:Int)) (300:Int))),SV.int IntKind.i64 (shlI IntKind.i64 (IntKind.i64.wrap (nextS l (k + (1:Int) + (1:Int)) (3:Int) * nextS l (k + (1:Int) + (1:Int) + (1:Int)) (1048576:Int))) (10:Int))],boxes:=[[SV.sl tI l,SV.int IntKind.i64 (k + (1:Int) + (1:Int) + (1:Int) + (1:Int) + (1:Int) + (1:Int))]] }))))))):=by kernel_rfl
def c_kCase:MC P:=MC.of (α:=Unit × List Int × Int × Unit) 10 L_kCase (fun x => x) (fun x => x) (fun _ => rfl)
  (fun x => some (0 ≤ x.2.2.1 ∧ x.2.2.1 < 1000000000))
  (fun x => ⟨.agg [.int .i64 (caseK x.2.1 x.2.2.1).1,.int .i64 (caseK x.2.1 x.2.2.1).2.1,.int .i64 (caseK x.2.1 x.2.2.1).2.2.1.1,.int .i64 (caseK x.2.1 x.2.2.1).2.2.1.2,.int .i64 (caseK x.2.1 x.2.2.1).2.2.2],[[.sl tI x.2.1,.int .i64 (x.2.2.1 + 1 + 1 + 1 + 1 + 1 + 1)]],[]⟩) (by kernel_rfl) (by kernel_rfl) (by kernel_rfl) (by
    rintro ⟨⟨⟩,l,k,⟨⟩⟩ hp
    refine m_of hm (own:=true) (by kernel_rfl) (by kernel_rfl) (by kernel_rfl) (T_kCase l k) trivial ?_
    try dsimp only at hp
    try dsimp only
    obtain ⟨h0,h1⟩ : 0 ≤ k ∧ k < 1000000000:=hp
    have n0:=nextS_rng (l:=l) (k:=k) (n:=3) h0 (by decide)
    have n2:=nextS_rng (l:=l) (k:=k + 1 + 1) (n:=3) (by omega) (by decide)
    have n3:=nextS_rng (l:=l) (k:=k + 1 + 1 + 1) (n:=1048576) (by omega) (by decide)
    have n4:=nextS_rng (l:=l) (k:=k + 1 + 1 + 1 + 1) (n:=300) (by omega) (by decide)
    have n5:=nextS_rng (l:=l) (k:=k + 1 + 1 + 1 + 1 + 1) (n:=300) (by omega) (by decide)
    have hm:=mul_rng (a:=nextS l (k + 1 + 1) 3) (b:=nextS l (k + 1 + 1 + 1) 1048576) (A:=2) (B:=1048576) n2.1 (by omega) n3.1 (by omega)
    rw [shl10,W_id (n:=1 + nextS l k 3) (by omega) (by omega),W_id (n:=nextS l (k + 1 + 1) 3 * nextS l (k + 1 + 1 + 1) 1048576) (by omega) (by omega),W_id (n:=nextS l (k + 1 + 1) 3 * nextS l (k + 1 + 1 + 1) 1048576 * 1024) (by omega) (by omega),W_id (n:=nextS l (k + 1 + 1 + 1 + 1) 300 + nextS l (k + 1 + 1 + 1 + 1 + 1) 300) (by omega) (by omega)]
    exact ⟨by omega,by omega,by omega,by omega,by decide,by omega,by omega,rfl⟩)
end
end Go.MP
