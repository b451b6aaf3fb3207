/- Sites: which are valid. -/
import Derived.Test.YtfhomgggbhjglaaMbF
namespace Go.MB
open Go Go.Sx Go.Proofs
set_option linter.unusedVariables false
set_option linter.unusedSimpArgs false
noncomputable section
def memB (crew who:Int):Bool:=decide (who ≥ 0) && decide (who < crew)
def badN (s:Site):Bool:=!wi s.1 0 1099511627776 || (decide (s.2.1 < 1) || (decide (s.2.1 > 20) || (!memB s.2.1 s.2.2.1 || (((s.2.2.2.1 != -1) && !memB s.2.1 s.2.2.2.1) || ((s.2.2.2.1 == s.2.2.1) || !wi s.2.2.2.2.1 0 68719476736)))))
def ordB:Int → List Pm → Bool
  | _,[] => false
  | last,p :: r => decide (p.1 ≤ last) || (decide (p.1 ≥ 16) || ordB p.1 r)
def prmB (crew:Int) (p:Pm):Bool:=!memB crew p.2.1 || !wi p.2.2.1 0 2199023255552
def opnP (p:Pm):Bool:=p.2.2.2
def opnS (s:Site):Bool:=s.2.2.2.2.2.2.1.any opnP
def keepS (s:Site) (tick:Int):Bool:=!opnS s || holdsS s.2.2.2.2.2.1 tick s.2.2.2.2.1
def chkS (s:Site):Int :=
  if badN s = true then 2 else if houseE s.2.2.2.2.2.1 ≠ 0 then houseE s.2.2.2.2.2.1 else if s.2.2.2.2.2.2.1.length > 16 then 8 else if ordB (-1) s.2.2.2.2.2.2.1 = true then 11 else if s.2.2.2.2.2.2.1.any (prmB s.2.1) = true then 2
  else if keepS s s.1 = true then (if s.2.2.2.2.2.2.2 ≠ -1 then 10 else 0) else if wi s.2.2.2.2.2.2.2 0 s.1 = false then 10 else 0
theorem ordB_step {last:Int} {l:List Pm} {i:Int} (h0:0 ≤ i) (h:i < l.length):ordB last (l.drop i.toNat) = (decide ((l.getD i.toNat (0,0,0,false)).1 ≤ last) || (decide ((l.getD i.toNat (0,0,0,false)).1 ≥ 16) || ordB (l.getD i.toNat (0,0,0,false)).1 (l.drop (i + 1).toNat))):=by
  rw [drop_step (0,0,0,false) h0 h]; rfl
theorem T_member (s_0 s_1 s_2 s_3 s_4:Int) (s_5:List (Int × V)) (s_6:List (List Int)) (s_7:Int) (s_8:List (Int × (Int × (Int × Bool)))) (s_9 who:Int):fnTree (P:=P) [] (lpOf []) Try.f47 (encL 0 [.agg (.pair tI (.pair tI (.pair tI (.pair tI (.pair tI (.pair (.pair (.sl (.pair tI tV)) (.pair (.sl tIs) tI)) (.pair (.sl (.pair tI (.pair tI (.pair tI .bool)))) tI))))))),.val tI] ((s_0,(s_1,(s_2,(s_3,(s_4,((s_5,(s_6,s_7)),(s_8,s_9))))))),who,())) =
  Tree.cond (decide (who ≥ (0:Int))) (.leaf (SV.bool (decide (who < s_1)))) (.leaf (SV.bool false)):=by kernel_rfl
def c_member:PC P:=PC.of (α:=(Int × (Int × (Int × (Int × (Int × ((List (Int × V) × (List (List Int) × Int)) × (List (Int × (Int × (Int × Bool))) × Int))))))) × Int × Unit) 47 [.agg (.pair tI (.pair tI (.pair tI (.pair tI (.pair tI (.pair (.pair (.sl (.pair tI tV)) (.pair (.sl tIs) tI)) (.pair (.sl (.pair tI (.pair tI (.pair tI .bool)))) tI))))))),.val tI] (fun x => x) (fun x => x) (fun _ => rfl)
  (fun _ => none)
  (fun x => .bool (memB x.1.2.1 x.2.1)) (by kernel_rfl) (by
    rintro ⟨⟨s_0,⟨s_1,⟨s_2,⟨s_3,⟨s_4,⟨⟨s_5,⟨s_6,s_7⟩⟩,⟨s_8,s_9⟩⟩⟩⟩⟩⟩⟩,who,⟨⟩⟩ hp
    refine fn_of hm (by kernel_rfl) (by kernel_rfl) (T_member s_0 s_1 s_2 s_3 s_4 s_5 s_6 s_7 s_8 s_9 who) trivial ?_
    try dsimp only at hp
    try dsimp only
    refine ⟨fun c1 => ?_,fun c1 => ?_⟩
    · exact congrArg SV.bool (show _ = memB s_1 who by unfold memB; rw [c1,Bool.true_and])
    · exact congrArg SV.bool (show _ = memB s_1 who by unfold memB; rw [c1,Bool.false_and]))
theorem T_open1 (p_0 p_1 p_2:Int) (p_3:Bool):fnTree (P:=P) [] (lpOf []) Try.f75 (encL 0 [.agg (.pair tI (.pair tI (.pair tI .bool)))] ((p_0,(p_1,(p_2,p_3))),())) =
  Tree.leaf (SV.bool p_3):=by kernel_rfl
def c_open1:PC P:=PC.of (α:=(Int × (Int × (Int × Bool))) × Unit) 75 [.agg (.pair tI (.pair tI (.pair tI .bool)))] (fun x => x) (fun x => x) (fun _ => rfl)
  (fun _ => none)
  (fun x => .bool (opnP x.1)) (by kernel_rfl) (by
    rintro ⟨⟨p_0,⟨p_1,⟨p_2,p_3⟩⟩⟩,⟨⟩⟩ hp
    refine fn_of hm (by kernel_rfl) (by kernel_rfl) (T_open1 p_0 p_1 p_2 p_3) trivial ?_
    exact rfl)
def L_ixO0:Lay:={ slots:=[(0,.val (.sl tPm)),(1,.fn 75)] }
def L_ixOL:Lay:={ slots:=[(0,.val (.sl tPm)),(1,.fn 75),(7,.val tI),(8,.val tI)] }
def L_ixOL_0:Lay:={ slots:=[] }
def L_ixOL_1:Lay:={ slots:=[(4,.val tI)] }
def X_ixOL:Exit → St → Option Lay
  | .exit 0,_ => some L_ixOL_0
  | .ret,_ => some L_ixOL_1
  | _,_ => none
abbrev C_ixOL:Code:=loopC (bodyOf Try.f74) 0
theorem B_ixOL (l:List Pm) (n i:Int):loopBodyA (P:=P) [c_open1.gc] (lpOf []) [] 19 (usd noU (L_ixO0.ids ++ rowIds rowBase L_ixO0.shs)) (inner C_ixOL) L_ixOL X_ixOL (α:=List Pm × Unit × Int × Int × Unit) (fun x => x) (fun x => x) (l,(),n,i,()) =
  Tree.cond (decide (i < n)) (.need ((0:Int) ≤ i ∧ i < (l.length:Int)) (.cond (opnP (List.getD l (Int.toNat i) ((0:Int),(0:Int),(0:Int),false))) (.leaf (Sum.inr (Exit.ret,Lay.st L_ixOL_1 (usd noU (Lay.ids L_ixO0 ++ rowIds rowBase (Lay.shs L_ixO0))) (i,())))) (.leaf (Sum.inl (l,(),n,IntKind.i64.wrap (i + (1:Int)),()))))) (.leaf (Sum.inr (Exit.exit (0:Nat),Lay.st L_ixOL_0 (usd noU (Lay.ids L_ixO0 ++ rowIds rowBase (Lay.shs L_ixO0))) ()))):=by kernel_rfl
def inv_ixOL:List Pm × Unit × Int × Int × Unit → Prop:=fun (l,_,n,i,_) => n = l.length ∧ 0 ≤ i ∧ i ≤ n ∧ (l.length:Int) < 2 ^ 62
def O_ixOL:List Pm × Unit × Int × Int × Unit → Tree (Exit × St):=fun (l,_,n,i,_) => .cond ((l.drop i.toNat).any (opnP)) (.leaf (.ret,L_ixOL_1.st (usd noU (L_ixO0.ids ++ rowIds rowBase L_ixO0.shs)) (ixR (opnP) l i,()))) (.leaf (.exit 0,L_ixOL_0.st (usd noU (L_ixO0.ids ++ rowIds rowBase L_ixO0.shs)) ()))
def R_ixOL:LRun:=runOf 19 L_ixOL (fun x => x) (inv_ixOL) (O_ixOL)
theorem K_ixOL:LoopOk P [] 19 none (usd noU (L_ixO0.ids ++ rowIds rowBase L_ixO0.shs)) C_ixOL (R_ixOL):=by
  refine loop_of hm (cx:=[c_open1.gc]) [] (xl:=X_ixOL) (α:=List Pm × Unit × Int × Int × Unit) (fun x => x) (fun (l,_,n,i,_) => (n - i).toNat) (fun _ => rfl) (by kernel_rfl) (by kernel_rfl) ?_ (by kernel_rfl) trivial ?_
  · intro e S L' h
    unfold X_ixOL at h
    split at h <;> first | (cases h; done) | (cases h; kernel_rfl) | (rcases bif_some h with h | h <;> cases h <;> kernel_rfl)
  · rintro ⟨l,⟨⟩,n,i,⟨⟩⟩ hinv Q hQ
    refine hold_of_eq (B_ixOL l n i) ?_
    obtain ⟨rfl,h0,h1,h2⟩:=hinv
    rw [W_id (n:=i + 1) (by omega) (by omega)]
    unfold O_ixOL at hQ
    dsimp only at hQ
    refine ⟨fun hi => ?_,fun hi => ?_⟩
    · simp only [decide_eq_true_eq] at hi
      have hm:((l.length:Int) - (i + 1)).toNat < ((l.length:Int) - i).toNat:=by omega
      obtain ⟨e1,e2,e3⟩:=ix_step (p:=opnP) ((0,0,0,false):Pm) h0 hi
      rw [e1] at hQ
      refine ⟨⟨h0,hi⟩,fun hp => ?_,fun hp => ?_⟩
      · replace hp:(opnP) (l.getD i.toNat ((0,0,0,false):Pm)) = true:=hp
        rw [hp,Bool.true_or,e2 hp] at hQ
        exact hQ.1 rfl
      · replace hp:(opnP) (l.getD i.toNat ((0,0,0,false):Pm)) = false:=hp
        rw [hp,Bool.false_or,e3 hp] at hQ
        exact ⟨⟨⟨rfl,by omega,by omega,h2⟩,hm⟩,hQ⟩
    · simp only [decide_eq_false_iff_not] at hi
      rw [drop_end hi] at hQ
      exact hQ.2 rfl
def L_ixO:Lay:={ slots:=[(0,.val (.sl tPm)),(1,.fn 75)] }
theorem T_ixO (l:List Pm):mTree (P:=P) [] (lpOf [(0,R_ixOL)]) Try.f74 L_ixO true (l,(),()) =
  Tree.need (inv_ixOL (l,(),(l.length:Int),(0:Int),())) (.cond (List.any (List.drop (Int.toNat (0:Int)) l) opnP) (.leaf { res:=SV.int IntKind.i64 (ixR opnP l (0:Int)),boxes:=[] }) (.leaf { res:=SV.int IntKind.i64 (-1:Int),boxes:=[] })):=by kernel_rfl
def c_ixO:MC P:=MC.of (α:=List Pm × Unit × Unit) 74 L_ixO (fun x => x) (fun x => x) (fun _ => rfl)
  (fun (l,_,_) => some ((l.length:Int) < 2 ^ 62))
  (fun (l,_,_) => ⟨.int .i64 (ixS (opnP) l),[],[]⟩) (by kernel_rfl) (by kernel_rfl) (by kernel_rfl) (by
    rintro ⟨l,⟨⟩,⟨⟩⟩ hp
    refine m_of hm (own:=true) (by kernel_rfl) (by kernel_rfl) (by kernel_rfl) (T_ixO l) ⟨K_ixOL,trivial⟩ ?_
    refine ⟨⟨rfl,by omega,by omega,hp⟩,fun h => ?_,fun h => ?_⟩
    · simp only [Int.toNat_zero,List.drop_zero] at h
      have e:ixR (opnP) l 0 = ixS (opnP) l:=by
        unfold ixS ixR
        rw [if_pos h]
        simp only [Int.toNat_zero,List.drop_zero,Int.zero_add]
      exact congrArg (fun k:Int => (⟨.int .i64 k,[],[]⟩ : MOut)) e
    · simp only [Int.toNat_zero,List.drop_zero] at h
      have e : -1 = ixS (opnP) l:=by
        unfold ixS
        rw [if_neg (by simp only [h]; decide)]
      exact congrArg (fun k:Int => (⟨.int .i64 k,[],[]⟩ : MOut)) e)
def L_ixOC:Lay:={ slots:=[(0,.val (.sl tPm)),(1,.fn 75)] }
theorem T_ixOC (l:List Pm):mTree (P:=P) [c_ixO.gc] (lpOf []) Try.f48 L_ixOC true (l,(),()) =
  Tree.need ((l.length:Int) < (2:Int) ^ (62:Nat)) (.leaf { res:=SV.bool (decide (ixS opnP l ≥ (0:Int))),boxes:=[] }):=by kernel_rfl
def c_ixOC:MC P:=MC.of (α:=List Pm × Unit × Unit) 48 L_ixOC (fun x => x) (fun x => x) (fun _ => rfl)
  (fun (l,_,_) => some ((l.length:Int) < 2 ^ 62))
  (fun (l,_,_) => ⟨.bool (l.any (opnP)),[],[]⟩) (by kernel_rfl) (by kernel_rfl) (by kernel_rfl) (by
    rintro ⟨l,⟨⟩,⟨⟩⟩ hp
    refine m_of hm (own:=true) (by kernel_rfl) (by kernel_rfl) (by kernel_rfl) (T_ixOC l) trivial ?_
    exact ⟨hp,congrArg (fun k:Bool => (⟨.bool k,[],[]⟩ : MOut)) (ixS_ge (opnP) l)⟩)
theorem T_openS (s_0 s_1 s_2 s_3 s_4:Int) (s_5:List (Int × V)) (s_6:List (List Int)) (s_7:Int) (s_8:List (Int × (Int × (Int × Bool)))) (s_9:Int):fnTree (P:=P) [c_ixOC.gc] (lpOf []) Try.f50 (encL 0 [.agg (.pair tI (.pair tI (.pair tI (.pair tI (.pair tI (.pair (.pair (.sl (.pair tI tV)) (.pair (.sl tIs) tI)) (.pair (.sl (.pair tI (.pair tI (.pair tI .bool)))) tI)))))))] ((s_0,(s_1,(s_2,(s_3,(s_4,((s_5,(s_6,s_7)),(s_8,s_9))))))),())) =
  Tree.need ((s_8.length:Int) < (2:Int) ^ (62:Nat)) (.leaf (SV.bool (List.any s_8 opnP))):=by kernel_rfl
def c_openS:PC P:=PC.of (α:=(Int × (Int × (Int × (Int × (Int × ((List (Int × V) × (List (List Int) × Int)) × (List (Int × (Int × (Int × Bool))) × Int))))))) × Unit) 50 [.agg (.pair tI (.pair tI (.pair tI (.pair tI (.pair tI (.pair (.pair (.sl (.pair tI tV)) (.pair (.sl tIs) tI)) (.pair (.sl (.pair tI (.pair tI (.pair tI .bool)))) tI)))))))] (fun x => x) (fun x => x) (fun _ => rfl)
  (fun x => some (x.1.2.2.2.2.2.2.1.length ≤ 1000))
  (fun x => .bool (opnS x.1)) (by kernel_rfl) (by
    rintro ⟨⟨s_0,⟨s_1,⟨s_2,⟨s_3,⟨s_4,⟨⟨s_5,⟨s_6,s_7⟩⟩,⟨s_8,s_9⟩⟩⟩⟩⟩⟩⟩,⟨⟩⟩ hp
    refine fn_of hm (by kernel_rfl) (by kernel_rfl) (T_openS s_0 s_1 s_2 s_3 s_4 s_5 s_6 s_7 s_8 s_9) trivial ?_
    try dsimp only at hp
    try dsimp only
    have hp' : s_8.length ≤ 1000:=hp
    exact ⟨by omega,rfl⟩)
def L_chk1:Lay:={ slots:=[(0,.agg (.pair tI (.pair tI (.pair tI .bool)))),(1,.ptr 1 0)],boxes:=[(1,[.val tI,.val tI,.val tI,.val tI,.val tI,.val (.sl (.pair tI tV)),.val (.sl tIs),.val tI,.val (.sl (.pair tI (.pair tI (.pair tI .bool)))),.val tI])] }
theorem T_chk1 (p_0 p_1 p_2:Int) (p_3:Bool) (x0 x1 x2 x3 x4:Int) (x5:List (Int × V)) (x6:List (List Int)) (x7:Int) (x8:List (Int × (Int × (Int × Bool)))) (x9:Int):mTree (P:=P) [c_member.gc,c_within.gc] (lpOf []) Try.f49 L_chk1 true ((p_0,(p_1,(p_2,p_3))),(),x0,x1,x2,x3,x4,x5,x6,x7,x8,x9,()) =
  Tree.cond (!memB x1 p_1) (.leaf { res:=SV.bool true,boxes:=[[SV.int IntKind.i64 x0,SV.int IntKind.i64 x1,SV.int IntKind.i64 x2,SV.int IntKind.i64 x3,SV.int IntKind.i64 x4,SV.sl (Ty.pair tI tV) x5,SV.sl tIs x6,SV.int IntKind.i64 x7,SV.sl (Ty.pair tI (Ty.pair tI (Ty.pair tI Ty.bool))) x8,SV.int IntKind.i64 x9]] }) (.leaf { res:=SV.bool !wi p_2 (0:Int) (2199023255552:Int),boxes:=[[SV.int IntKind.i64 x0,SV.int IntKind.i64 x1,SV.int IntKind.i64 x2,SV.int IntKind.i64 x3,SV.int IntKind.i64 x4,SV.sl (Ty.pair tI tV) x5,SV.sl tIs x6,SV.int IntKind.i64 x7,SV.sl (Ty.pair tI (Ty.pair tI (Ty.pair tI Ty.bool))) x8,SV.int IntKind.i64 x9]] }):=by kernel_rfl
def c_chk1:MC P:=MC.of (α:=(Int × (Int × (Int × Bool))) × Unit × Int × Int × Int × Int × Int × List (Int × V) × List (List Int) × Int × List (Int × (Int × (Int × Bool))) × Int × Unit) 49 L_chk1 (fun x => x) (fun x => x) (fun _ => rfl)
  (fun _ => none)
  (fun x => ⟨.bool (prmB x.2.2.2.1 x.1),[[.int .i64 x.2.2.1,.int .i64 x.2.2.2.1,.int .i64 x.2.2.2.2.1,.int .i64 x.2.2.2.2.2.1,.int .i64 x.2.2.2.2.2.2.1,.sl tEl x.2.2.2.2.2.2.2.1,.sl tIs x.2.2.2.2.2.2.2.2.1,.int .i64 x.2.2.2.2.2.2.2.2.2.1,.sl tPm x.2.2.2.2.2.2.2.2.2.2.1,.int .i64 x.2.2.2.2.2.2.2.2.2.2.2.1]],[]⟩) (by kernel_rfl) (by kernel_rfl) (by kernel_rfl) (by
    rintro ⟨⟨p_0,⟨p_1,⟨p_2,p_3⟩⟩⟩,⟨⟩,x0,x1,x2,x3,x4,x5,x6,x7,x8,x9,⟨⟩⟩ hp
    refine m_of hm (own:=true) (by kernel_rfl) (by kernel_rfl) (by kernel_rfl) (T_chk1 p_0 p_1 p_2 p_3 x0 x1 x2 x3 x4 x5 x6 x7 x8 x9) trivial ?_
    try dsimp only at hp
    try dsimp only
    have fin:∀ n:Bool,prmB x1 (p_0,p_1,p_2,p_3) = n → (⟨SV.bool n,[[.int .i64 x0,.int .i64 x1,.int .i64 x2,.int .i64 x3,.int .i64 x4,.sl tEl x5,.sl tIs x6,.int .i64 x7,.sl tPm x8,.int .i64 x9]],[]⟩ : MOut) = ⟨SV.bool (prmB x1 (p_0,p_1,p_2,p_3)),[[.int .i64 x0,.int .i64 x1,.int .i64 x2,.int .i64 x3,.int .i64 x4,.sl tEl x5,.sl tIs x6,.int .i64 x7,.sl tPm x8,.int .i64 x9]],[]⟩:=fun n h => by rw [h]
    unfold prmB at fin
    dsimp only at fin
    refine ⟨fun c1 => ?_,fun c1 => ?_⟩
    · exact fin _ (by rw [c1,Bool.true_or])
    · exact fin _ (by rw [c1,Bool.false_or]))
def L_ixK0:Lay:={ slots:=[(0,.val (.sl tPm)),(1,.clo 49 [(1,0)])],boxes:=[(1,[.val tI,.val tI,.val tI,.val tI,.val tI,.val tEls,.val tIss,.val tI,.val tPms,.val tI])] }
def L_ixKL:Lay:={ slots:=[(0,.val (.sl tPm)),(1,.clo 49 [(1,0)]),(7,.val tI),(8,.val tI)],boxes:=[(1,[.val tI,.val tI,.val tI,.val tI,.val tI,.val tEls,.val tIss,.val tI,.val tPms,.val tI])] }
def L_ixKL_0:Lay:={ slots:=[],boxes:=[(1,[.val tI,.val tI,.val tI,.val tI,.val tI,.val tEls,.val tIss,.val tI,.val tPms,.val tI])] }
def L_ixKL_1:Lay:={ slots:=[(4,.val tI)],boxes:=[(1,[.val tI,.val tI,.val tI,.val tI,.val tI,.val tEls,.val tIss,.val tI,.val tPms,.val tI])] }
def X_ixKL:Exit → St → Option Lay
  | .exit 0,_ => some L_ixKL_0
  | .ret,_ => some L_ixKL_1
  | _,_ => none
abbrev C_ixKL:Code:=loopC (bodyOf Try.f74) 0
theorem B_ixKL (l:List Pm) (n i:Int) (x0 x1 x2 x3 x4:Int) (x5:List E4) (x6:List (List Int)) (x7:Int) (x8:List Pm) (x9:Int):loopBodyA (P:=P) [c_chk1.gc] (lpOf []) [] 19 (usd noU (L_ixK0.ids ++ rowIds rowBase L_ixK0.shs)) (inner C_ixKL) L_ixKL X_ixKL (α:=List Pm × Unit × Int × Int × Int × Int × Int × Int × Int × List E4 × List (List Int) × Int × List Pm × Int × Unit) (fun x => x) (fun x => x) (l,(),n,i,x0,x1,x2,x3,x4,x5,x6,x7,x8,x9,()) =
  Tree.cond (decide (i < n)) (.need ((0:Int) ≤ i ∧ i < (l.length:Int)) (.cond (prmB x1 (List.getD l (Int.toNat i) ((0:Int),(0:Int),(0:Int),false))) (.leaf (Sum.inr (Exit.ret,Lay.st L_ixKL_1 (usd noU (Lay.ids L_ixK0 ++ rowIds rowBase (Lay.shs L_ixK0))) (i,x0,x1,x2,x3,x4,x5,x6,x7,x8,x9,())))) (.leaf (Sum.inl (l,(),n,IntKind.i64.wrap (i + (1:Int)),x0,x1,x2,x3,x4,x5,x6,x7,x8,x9,()))))) (.leaf (Sum.inr (Exit.exit (0:Nat),Lay.st L_ixKL_0 (usd noU (Lay.ids L_ixK0 ++ rowIds rowBase (Lay.shs L_ixK0))) (x0,x1,x2,x3,x4,x5,x6,x7,x8,x9,())))):=by kernel_rfl
def inv_ixKL:List Pm × Unit × Int × Int × Int × Int × Int × Int × Int × List E4 × List (List Int) × Int × List Pm × Int × Unit → Prop:=fun (l,_,n,i,x0,x1,x2,x3,x4,x5,x6,x7,x8,x9,_) => n = l.length ∧ 0 ≤ i ∧ i ≤ n ∧ (l.length:Int) < 2 ^ 62
def O_ixKL:List Pm × Unit × Int × Int × Int × Int × Int × Int × Int × List E4 × List (List Int) × Int × List Pm × Int × Unit → Tree (Exit × St):=fun (l,_,n,i,x0,x1,x2,x3,x4,x5,x6,x7,x8,x9,_) => .cond ((l.drop i.toNat).any (prmB x1)) (.leaf (.ret,L_ixKL_1.st (usd noU (L_ixK0.ids ++ rowIds rowBase L_ixK0.shs)) (ixR (prmB x1) l i,x0,x1,x2,x3,x4,x5,x6,x7,x8,x9,()))) (.leaf (.exit 0,L_ixKL_0.st (usd noU (L_ixK0.ids ++ rowIds rowBase L_ixK0.shs)) (x0,x1,x2,x3,x4,x5,x6,x7,x8,x9,())))
def R_ixKL:LRun:=runOf 19 L_ixKL (fun x => x) (inv_ixKL) (O_ixKL)
theorem K_ixKL:LoopOk P [] 19 none (usd noU (L_ixK0.ids ++ rowIds rowBase L_ixK0.shs)) C_ixKL (R_ixKL):=by
  refine loop_of hm (cx:=[c_chk1.gc]) [] (xl:=X_ixKL) (α:=List Pm × Unit × Int × Int × Int × Int × Int × Int × Int × List E4 × List (List Int) × Int × List Pm × Int × Unit) (fun x => x) (fun (l,_,n,i,x0,x1,x2,x3,x4,x5,x6,x7,x8,x9,_) => (n - i).toNat) (fun _ => rfl) (by kernel_rfl) (by kernel_rfl) ?_ (by kernel_rfl) trivial ?_
  · intro e S L' h
    unfold X_ixKL at h
    split at h <;> first | (cases h; done) | (cases h; kernel_rfl) | (rcases bif_some h with h | h <;> cases h <;> kernel_rfl)
  · rintro ⟨l,⟨⟩,n,i,x0,x1,x2,x3,x4,x5,x6,x7,x8,x9,⟨⟩⟩ hinv Q hQ
    refine hold_of_eq (B_ixKL l n i x0 x1 x2 x3 x4 x5 x6 x7 x8 x9) ?_
    obtain ⟨rfl,h0,h1,h2⟩:=hinv
    rw [W_id (n:=i + 1) (by omega) (by omega)]
    unfold O_ixKL at hQ
    dsimp only at hQ
    refine ⟨fun hi => ?_,fun hi => ?_⟩
    · simp only [decide_eq_true_eq] at hi
      have hm:((l.length:Int) - (i + 1)).toNat < ((l.length:Int) - i).toNat:=by omega
      obtain ⟨e1,e2,e3⟩:=ix_step (p:=prmB x1) ((0,0,0,false):Pm) h0 hi
      rw [e1] at hQ
      refine ⟨⟨h0,hi⟩,fun hp => ?_,fun hp => ?_⟩
      · replace hp:(prmB x1) (l.getD i.toNat ((0,0,0,false):Pm)) = true:=hp
        rw [hp,Bool.true_or,e2 hp] at hQ
        exact hQ.1 rfl
      · replace hp:(prmB x1) (l.getD i.toNat ((0,0,0,false):Pm)) = false:=hp
        rw [hp,Bool.false_or,e3 hp] at hQ
        exact ⟨⟨⟨rfl,by omega,by omega,h2⟩,hm⟩,hQ⟩
    · simp only [decide_eq_false_iff_not] at hi
      rw [drop_end hi] at hQ
      exact hQ.2 rfl
def L_ixK:Lay:={ slots:=[(0,.val (.sl tPm)),(1,.clo 49 [(1,0)])],boxes:=[(1,[.val tI,.val tI,.val tI,.val tI,.val tI,.val tEls,.val tIss,.val tI,.val tPms,.val tI])] }
theorem T_ixK (l:List Pm) (x0 x1 x2 x3 x4:Int) (x5:List E4) (x6:List (List Int)) (x7:Int) (x8:List Pm) (x9:Int):mTree (P:=P) [] (lpOf [(0,R_ixKL)]) Try.f74 L_ixK true (l,(),x0,x1,x2,x3,x4,x5,x6,x7,x8,x9,()) =
  Tree.need (inv_ixKL (l,(),(l.length:Int),(0:Int),x0,x1,x2,x3,x4,x5,x6,x7,x8,x9,())) (.cond (List.any (List.drop (Int.toNat (0:Int)) l) (prmB x1)) (.leaf { res:=SV.int IntKind.i64 (ixR (prmB x1) l (0:Int)),boxes:=[[SV.int IntKind.i64 x0,SV.int IntKind.i64 x1,SV.int IntKind.i64 x2,SV.int IntKind.i64 x3,SV.int IntKind.i64 x4,SV.sl tEl x5,SV.sl tIs x6,SV.int IntKind.i64 x7,SV.sl tPm x8,SV.int IntKind.i64 x9]] }) (.leaf { res:=SV.int IntKind.i64 (-1:Int),boxes:=[[SV.int IntKind.i64 x0,SV.int IntKind.i64 x1,SV.int IntKind.i64 x2,SV.int IntKind.i64 x3,SV.int IntKind.i64 x4,SV.sl tEl x5,SV.sl tIs x6,SV.int IntKind.i64 x7,SV.sl tPm x8,SV.int IntKind.i64 x9]] })):=by kernel_rfl
def c_ixK:MC P:=MC.of (α:=List Pm × Unit × Int × Int × Int × Int × Int × List E4 × List (List Int) × Int × List Pm × Int × Unit) 74 L_ixK (fun x => x) (fun x => x) (fun _ => rfl)
  (fun (l,_,x0,x1,x2,x3,x4,x5,x6,x7,x8,x9,_) => some ((l.length:Int) < 2 ^ 62))
  (fun (l,_,x0,x1,x2,x3,x4,x5,x6,x7,x8,x9,_) => ⟨.int .i64 (ixS (prmB x1) l),[[.int .i64 x0,.int .i64 x1,.int .i64 x2,.int .i64 x3,.int .i64 x4,.sl tEl x5,.sl tIs x6,.int .i64 x7,.sl tPm x8,.int .i64 x9]],[]⟩) (by kernel_rfl) (by kernel_rfl) (by kernel_rfl) (by
    rintro ⟨l,⟨⟩,x0,x1,x2,x3,x4,x5,x6,x7,x8,x9,⟨⟩⟩ hp
    refine m_of hm (own:=true) (by kernel_rfl) (by kernel_rfl) (by kernel_rfl) (T_ixK l x0 x1 x2 x3 x4 x5 x6 x7 x8 x9) ⟨K_ixKL,trivial⟩ ?_
    refine ⟨⟨rfl,by omega,by omega,hp⟩,fun h => ?_,fun h => ?_⟩
    · simp only [Int.toNat_zero,List.drop_zero] at h
      have e:ixR (prmB x1) l 0 = ixS (prmB x1) l:=by
        unfold ixS ixR
        rw [if_pos h]
        simp only [Int.toNat_zero,List.drop_zero,Int.zero_add]
      exact congrArg (fun k:Int => (⟨.int .i64 k,[[.int .i64 x0,.int .i64 x1,.int .i64 x2,.int .i64 x3,.int .i64 x4,.sl tEl x5,.sl tIs x6,.int .i64 x7,.sl tPm x8,.int .i64 x9]],[]⟩ : MOut)) e
    · simp only [Int.toNat_zero,List.drop_zero] at h
      have e : -1 = ixS (prmB x1) l:=by
        unfold ixS
        rw [if_neg (by simp only [h]; decide)]
      exact congrArg (fun k:Int => (⟨.int .i64 k,[[.int .i64 x0,.int .i64 x1,.int .i64 x2,.int .i64 x3,.int .i64 x4,.sl tEl x5,.sl tIs x6,.int .i64 x7,.sl tPm x8,.int .i64 x9]],[]⟩ : MOut)) e)
def L_ixKC:Lay:={ slots:=[(0,.val (.sl tPm)),(1,.clo 49 [(1,0)])],boxes:=[(1,[.val tI,.val tI,.val tI,.val tI,.val tI,.val tEls,.val tIss,.val tI,.val tPms,.val tI])] }
theorem T_ixKC (l:List Pm) (x0 x1 x2 x3 x4:Int) (x5:List E4) (x6:List (List Int)) (x7:Int) (x8:List Pm) (x9:Int):mTree (P:=P) [c_ixK.gc] (lpOf []) Try.f48 L_ixKC true (l,(),x0,x1,x2,x3,x4,x5,x6,x7,x8,x9,()) =
  Tree.need ((l.length:Int) < (2:Int) ^ (62:Nat)) (.leaf { res:=SV.bool (decide (ixS (prmB x1) l ≥ (0:Int))),boxes:=[[SV.int IntKind.i64 x0,SV.int IntKind.i64 x1,SV.int IntKind.i64 x2,SV.int IntKind.i64 x3,SV.int IntKind.i64 x4,SV.sl tEl x5,SV.sl tIs x6,SV.int IntKind.i64 x7,SV.sl tPm x8,SV.int IntKind.i64 x9]] }):=by kernel_rfl
def c_ixKC:MC P:=MC.of (α:=List Pm × Unit × Int × Int × Int × Int × Int × List E4 × List (List Int) × Int × List Pm × Int × Unit) 48 L_ixKC (fun x => x) (fun x => x) (fun _ => rfl)
  (fun (l,_,x0,x1,x2,x3,x4,x5,x6,x7,x8,x9,_) => some ((l.length:Int) < 2 ^ 62))
  (fun (l,_,x0,x1,x2,x3,x4,x5,x6,x7,x8,x9,_) => ⟨.bool (l.any (prmB x1)),[[.int .i64 x0,.int .i64 x1,.int .i64 x2,.int .i64 x3,.int .i64 x4,.sl tEl x5,.sl tIs x6,.int .i64 x7,.sl tPm x8,.int .i64 x9]],[]⟩) (by kernel_rfl) (by kernel_rfl) (by kernel_rfl) (by
    rintro ⟨l,⟨⟩,x0,x1,x2,x3,x4,x5,x6,x7,x8,x9,⟨⟩⟩ hp
    refine m_of hm (own:=true) (by kernel_rfl) (by kernel_rfl) (by kernel_rfl) (T_ixKC l x0 x1 x2 x3 x4 x5 x6 x7 x8 x9) trivial ?_
    exact ⟨hp,congrArg (fun k:Bool => (⟨.bool k,[[.int .i64 x0,.int .i64 x1,.int .i64 x2,.int .i64 x3,.int .i64 x4,.sl tEl x5,.sl tIs x6,.int .i64 x7,.sl tPm x8,.int .i64 x9]],[]⟩ : MOut)) (ixS_ge (prmB x1) l)⟩)
def L_Check0:Lay:={ slots:=[(1,.ptr 2107 0),(4,.val tI),(64,.val (.sl (.pair tI (.pair tI (.pair tI .bool))))),(65,.val tI),(66,.val tI)],boxes:=[(2107,[.val tI,.val tI,.val tI,.val tI,.val tI,.val (.sl (.pair tI tV)),.val (.sl tIs),.val tI,.val (.sl (.pair tI (.pair tI (.pair tI .bool)))),.val tI])] }
def L_Check0_0:Lay:={ slots:=[(2,.val tI)] }
def L_Check0_1:Lay:={ slots:=[(1,.ptr 2107 0)],boxes:=[(2107,[.val tI,.val tI,.val tI,.val tI,.val tI,.val (.sl (.pair tI tV)),.val (.sl tIs),.val tI,.val (.sl (.pair tI (.pair tI (.pair tI .bool)))),.val tI])] }
def X_Check0:Exit → St → Option Lay
  | .ret,_ => some L_Check0_0
  | .exit 0,_ => some L_Check0_1
  | _,_ => none
abbrev C_Check0:Code:=loopC (bodyOf Try.f17) 0
theorem B_Check0 (last:Int) (l:List (Int × (Int × (Int × Bool)))) (n i b1_0 b1_1 b1_2 b1_3 b1_4:Int) (b1_5:List (Int × V)) (b1_6:List (List Int)) (b1_7:Int) (b1_8:List (Int × (Int × (Int × Bool)))) (b1_9:Int):loopBodyA (P:=P) [] (lpOf []) [] 107 noU (inner C_Check0) L_Check0 X_Check0 (α:=Unit × Int × List (Int × (Int × (Int × Bool))) × Int × Int × Int × Int × Int × Int × Int × List (Int × V) × List (List Int) × Int × List (Int × (Int × (Int × Bool))) × Int × Unit) (fun x => x) (fun x => x) ((),last,l,n,i,b1_0,b1_1,b1_2,b1_3,b1_4,b1_5,b1_6,b1_7,b1_8,b1_9,()) =
  Tree.cond (decide (i < n)) (.need ((0:Int) ≤ i ∧ i < (l.length:Int)) (.cond (decide ((List.getD l (Int.toNat i) ((0:Int),(0:Int),(0:Int),false)).fst ≤ last)) (.leaf (Sum.inr (Exit.ret,Lay.st L_Check0_0 noU ((11:Int),())))) (.cond (decide ((List.getD l (Int.toNat i) ((0:Int),(0:Int),(0:Int),false)).fst ≥ (16:Int))) (.leaf (Sum.inr (Exit.ret,Lay.st L_Check0_0 noU ((11:Int),())))) (.leaf (Sum.inl ((),(List.getD l (Int.toNat i) ((0:Int),(0:Int),(0:Int),false)).fst,l,n,IntKind.i64.wrap (i + (1:Int)),b1_0,b1_1,b1_2,b1_3,b1_4,b1_5,b1_6,b1_7,b1_8,b1_9,())))))) (.leaf (Sum.inr (Exit.exit (0:Nat),Lay.st L_Check0_1 noU ((),b1_0,b1_1,b1_2,b1_3,b1_4,b1_5,b1_6,b1_7,b1_8,b1_9,())))):=by kernel_rfl
def inv_Check0:Unit × Int × List (Int × (Int × (Int × Bool))) × Int × Int × Int × Int × Int × Int × Int × List (Int × V) × List (List Int) × Int × List (Int × (Int × (Int × Bool))) × Int × Unit → Prop:=fun ((),last,l,n,i,b1_0,b1_1,b1_2,b1_3,b1_4,b1_5,b1_6,b1_7,b1_8,b1_9,()) => 0 ≤ i ∧ i ≤ n ∧ n = l.length ∧ l.length ≤ 1000
def O_Check0:Unit × Int × List (Int × (Int × (Int × Bool))) × Int × Int × Int × Int × Int × Int × Int × List (Int × V) × List (List Int) × Int × List (Int × (Int × (Int × Bool))) × Int × Unit → Tree (Exit × St):=fun ((),last,l,n,i,b1_0,b1_1,b1_2,b1_3,b1_4,b1_5,b1_6,b1_7,b1_8,b1_9,()) => .cond (ordB last (l.drop i.toNat)) (.leaf (.ret,L_Check0_0.st noU (((11:Int)),()))) (.leaf (.exit 0,L_Check0_1.st noU ((),b1_0,b1_1,b1_2,b1_3,b1_4,b1_5,b1_6,b1_7,b1_8,b1_9,())))
def R_Check0:LRun:=runOf 107 L_Check0 (fun x => x) (inv_Check0) (O_Check0)
theorem K_Check0:LoopOk P [] 107 none noU C_Check0 (R_Check0):=by
  refine loop_of hm (cx:=[]) [] (xl:=X_Check0) (α:=Unit × Int × List (Int × (Int × (Int × Bool))) × Int × Int × Int × Int × Int × Int × Int × List (Int × V) × List (List Int) × Int × List (Int × (Int × (Int × Bool))) × Int × Unit) (fun x => x) (fun ((),last,l,n,i,b1_0,b1_1,b1_2,b1_3,b1_4,b1_5,b1_6,b1_7,b1_8,b1_9,()) => (n - i).toNat) (fun _ => rfl) (by kernel_rfl) (by kernel_rfl) ?_ (by kernel_rfl) trivial ?_
  · intro e S L' h
    unfold X_Check0 at h
    split at h <;> first | (cases h; done) | (cases h; kernel_rfl) | (rcases bif_some h with h | h <;> cases h <;> kernel_rfl)
  · rintro ⟨⟨⟩,last,l,n,i,b1_0,b1_1,b1_2,b1_3,b1_4,b1_5,b1_6,b1_7,b1_8,b1_9,⟨⟩⟩ hinv Q hQ
    refine hold_of_eq (B_Check0 last l n i b1_0 b1_1 b1_2 b1_3 b1_4 b1_5 b1_6 b1_7 b1_8 b1_9) ?_
    obtain ⟨h0,h1,rfl,h2⟩:=hinv
    rw [W_id (n:=i + 1) (by omega) (by omega)]
    unfold O_Check0 at hQ
    dsimp only at hQ
    refine ⟨fun d1 => ?_,fun d1 => ?_⟩
    · have d1:=of_decide_eq_true d1
      rw [ordB_step h0 d1] at hQ
      refine ⟨⟨h0,d1⟩,fun d2 => ?_,fun d2 => ⟨fun d3 => ?_,fun d3 => ?_⟩⟩
      · rw [d2,Bool.true_or] at hQ
        exact hQ.1 rfl
      · rw [d3,Bool.true_or,Bool.or_true] at hQ
        exact hQ.1 rfl
      · rw [d2,d3,Bool.false_or,Bool.false_or] at hQ
        exact ⟨⟨⟨by omega,by omega,rfl,h2⟩,by show ((l.length:Int) - (i + 1)).toNat < ((l.length:Int) - i).toNat; omega⟩,hQ⟩
    · have d1:=of_decide_eq_false d1
      rw [drop_end d1] at hQ
      exact hQ.2 rfl
theorem T_Check (s_0 s_1 s_2 s_3 s_4:Int) (s_5:List (Int × V)) (s_6:List (List Int)) (s_7:Int) (s_8:List (Int × (Int × (Int × Bool)))) (s_9:Int):fnTree (P:=P) [c_within.gc,c_member.gc,c_House.gc,c_ixKC.gc,c_openS.gc,c_holds.gc] (lpOf [(0,R_Check0)]) Try.f17 (encL 0 [.agg (.pair tI (.pair tI (.pair tI (.pair tI (.pair tI (.pair (.pair (.sl (.pair tI tV)) (.pair (.sl tIs) tI)) (.pair (.sl (.pair tI (.pair tI (.pair tI .bool)))) tI)))))))] ((s_0,(s_1,(s_2,(s_3,(s_4,((s_5,(s_6,s_7)),(s_8,s_9))))))),())) =
  Tree.cond (!wi s_0 (0:Int) (1099511627776:Int)) (.leaf (SV.int IntKind.i64 (2:Int))) (.cond (decide (s_1 < (1:Int))) (.leaf (SV.int IntKind.i64 (2:Int))) (.cond (decide (s_1 > (20:Int))) (.leaf (SV.int IntKind.i64 (2:Int))) (.cond (!memB s_1 s_2) (.leaf (SV.int IntKind.i64 (2:Int))) (.cond (s_3 != (-1:Int)) (.cond (!memB s_1 s_3) (.leaf (SV.int IntKind.i64 (2:Int))) (.cond (s_3 == s_2) (.leaf (SV.int IntKind.i64 (2:Int))) (.cond (!wi s_4 (0:Int) (68719476736:Int)) (.leaf (SV.int IntKind.i64 (2:Int))) (.need (hOk (s_5,s_6,s_7)) (.cond (houseE (s_5,s_6,s_7) != (0:Int)) (.leaf (SV.int IntKind.i64 (houseE (s_5,s_6,s_7)))) (.cond (decide ((s_8.length:Int) > (16:Int))) (.leaf (SV.int IntKind.i64 (8:Int))) (.need (inv_Check0 ((),(-1:Int),s_8,(s_8.length:Int),(0:Int),s_0,s_1,s_2,s_3,s_4,s_5,s_6,s_7,s_8,s_9,())) (.cond (ordB (-1:Int) (List.drop (Int.toNat (0:Int)) s_8)) (.leaf (SV.int IntKind.i64 (11:Int))) (.need ((s_8.length:Int) < (2:Int) ^ (62:Nat)) (.cond (List.any s_8 (prmB s_1)) (.leaf (SV.int IntKind.i64 (2:Int))) (.need (List.length s_8 ≤ (1000:Nat)) (.cond (!opnS (s_0,s_1,s_2,s_3,s_4,(s_5,s_6,s_7),s_8,s_9)) (.cond (s_9 != (-1:Int)) (.leaf (SV.int IntKind.i64 (10:Int))) (.leaf (SV.int IntKind.i64 (0:Int)))) (.need (houseE (s_5,s_6,s_7) = (0:Int)) (.cond (holdsS (s_5,s_6,s_7) s_0 s_4) (.cond (s_9 != (-1:Int)) (.leaf (SV.int IntKind.i64 (10:Int))) (.leaf (SV.int IntKind.i64 (0:Int)))) (.cond (!wi s_9 (0:Int) s_0) (.leaf (SV.int IntKind.i64 (10:Int))) (.leaf (SV.int IntKind.i64 (0:Int)))))))))))))))))) (.cond (s_3 == s_2) (.leaf (SV.int IntKind.i64 (2:Int))) (.cond (!wi s_4 (0:Int) (68719476736:Int)) (.leaf (SV.int IntKind.i64 (2:Int))) (.need (hOk (s_5,s_6,s_7)) (.cond (houseE (s_5,s_6,s_7) != (0:Int)) (.leaf (SV.int IntKind.i64 (houseE (s_5,s_6,s_7)))) (.cond (decide ((s_8.length:Int) > (16:Int))) (.leaf (SV.int IntKind.i64 (8:Int))) (.need (inv_Check0 ((),(-1:Int),s_8,(s_8.length:Int),(0:Int),s_0,s_1,s_2,s_3,s_4,s_5,s_6,s_7,s_8,s_9,())) (.cond (ordB (-1:Int) (List.drop (Int.toNat (0:Int)) s_8)) (.leaf (SV.int IntKind.i64 (11:Int))) (.need ((s_8.length:Int) < (2:Int) ^ (62:Nat)) (.cond (List.any s_8 (prmB s_1)) (.leaf (SV.int IntKind.i64 (2:Int))) (.need (List.length s_8 ≤ (1000:Nat)) (.cond (!opnS (s_0,s_1,s_2,s_3,s_4,(s_5,s_6,s_7),s_8,s_9)) (.cond (s_9 != (-1:Int)) (.leaf (SV.int IntKind.i64 (10:Int))) (.leaf (SV.int IntKind.i64 (0:Int)))) (.need (houseE (s_5,s_6,s_7) = (0:Int)) (.cond (holdsS (s_5,s_6,s_7) s_0 s_4) (.cond (s_9 != (-1:Int)) (.leaf (SV.int IntKind.i64 (10:Int))) (.leaf (SV.int IntKind.i64 (0:Int)))) (.cond (!wi s_9 (0:Int) s_0) (.leaf (SV.int IntKind.i64 (10:Int))) (.leaf (SV.int IntKind.i64 (0:Int))))))))))))))))))))):=by kernel_rfl
def c_Check:PC P:=PC.of (α:=(Int × (Int × (Int × (Int × (Int × ((List (Int × V) × (List (List Int) × Int)) × (List (Int × (Int × (Int × Bool))) × Int))))))) × Unit) 17 [.agg (.pair tI (.pair tI (.pair tI (.pair tI (.pair tI (.pair (.pair (.sl (.pair tI tV)) (.pair (.sl tIs) tI)) (.pair (.sl (.pair tI (.pair tI (.pair tI .bool)))) tI)))))))] (fun x => x) (fun x => x) (fun _ => rfl)
  (fun x => some (sOk x.1))
  (fun x => .int .i64 (chkS x.1)) (by kernel_rfl) (by
    rintro ⟨⟨s_0,⟨s_1,⟨s_2,⟨s_3,⟨s_4,⟨⟨s_5,⟨s_6,s_7⟩⟩,⟨s_8,s_9⟩⟩⟩⟩⟩⟩⟩,⟨⟩⟩ hp
    refine fn_of hm (by kernel_rfl) (by kernel_rfl) (T_Check s_0 s_1 s_2 s_3 s_4 s_5 s_6 s_7 s_8 s_9) ⟨K_Check0,trivial⟩ ?_
    try dsimp only at hp
    try dsimp only
    obtain ⟨hh,hl⟩ : sOk (s_0,s_1,s_2,s_3,s_4,(s_5,s_6,s_7),s_8,s_9):=hp
    dsimp only at hh hl
    have fin:∀ n:Int,chkS (s_0,s_1,s_2,s_3,s_4,(s_5,s_6,s_7),s_8,s_9) = n → SV.int .i64 n = SV.int .i64 (chkS (s_0,s_1,s_2,s_3,s_4,(s_5,s_6,s_7),s_8,s_9)):=fun n h => by rw [h]
    have bad:badN (s_0,s_1,s_2,s_3,s_4,(s_5,s_6,s_7),s_8,s_9) = true → chkS (s_0,s_1,s_2,s_3,s_4,(s_5,s_6,s_7),s_8,s_9) = 2:=fun h => by unfold chkS; rw [if_pos h]
    have good:badN (s_0,s_1,s_2,s_3,s_4,(s_5,s_6,s_7),s_8,s_9) = false → chkS (s_0,s_1,s_2,s_3,s_4,(s_5,s_6,s_7),s_8,s_9) = if houseE (s_5,s_6,s_7) ≠ 0 then houseE (s_5,s_6,s_7) else if s_8.length > 16 then 8 else if ordB (-1) s_8 = true then 11 else if s_8.any (prmB s_1) = true then 2
      else if (!opnS (s_0,s_1,s_2,s_3,s_4,(s_5,s_6,s_7),s_8,s_9) || holdsS (s_5,s_6,s_7) s_0 s_4) = true then (if s_9 ≠ -1 then 10 else 0) else if wi s_9 0 s_0 = false then 10 else 0:=fun h => by
      unfold chkS
      rw [if_neg (by rw [h]; decide)]
      rfl
    refine ⟨fun c1 => fin _ (bad ?_),fun c1 => ⟨fun c2 => fin _ (bad ?_),fun c2 => ⟨fun c3 => fin _ (bad ?_),fun c3 => ⟨fun c4 => fin _ (bad ?_),fun c4 => ⟨fun c5 => ⟨fun c6 => fin _ (bad ?_),fun c6 => ⟨fun c7 => fin _ (bad ?_),fun c7 => ⟨fun c8 => fin _ (bad ?_),fun c8 => ?_⟩⟩⟩,fun c5 => ⟨fun c7 => fin _ (bad ?_),fun c7 => ⟨fun c8 => fin _ (bad ?_),fun c8 => ?_⟩⟩⟩⟩⟩⟩⟩
    · unfold badN; dsimp only; simp only [c1,Bool.true_or,Bool.or_true,Bool.false_or,Bool.or_false,Bool.true_and,Bool.false_and,Bool.and_true,Bool.and_false]
    · unfold badN; dsimp only; simp only [c1,c2,Bool.true_or,Bool.or_true,Bool.false_or,Bool.or_false,Bool.true_and,Bool.false_and,Bool.and_true,Bool.and_false]
    · unfold badN; dsimp only; simp only [c1,c2,c3,Bool.true_or,Bool.or_true,Bool.false_or,Bool.or_false,Bool.true_and,Bool.false_and,Bool.and_true,Bool.and_false]
    · unfold badN; dsimp only; simp only [c1,c2,c3,c4,Bool.true_or,Bool.or_true,Bool.false_or,Bool.or_false,Bool.true_and,Bool.false_and,Bool.and_true,Bool.and_false]
    · unfold badN; dsimp only; simp only [c1,c2,c3,c4,c5,c6,Bool.true_or,Bool.or_true,Bool.false_or,Bool.or_false,Bool.true_and,Bool.false_and,Bool.and_true,Bool.and_false]
    · unfold badN; dsimp only; simp only [c1,c2,c3,c4,c5,c6,c7,Bool.true_or,Bool.or_true,Bool.false_or,Bool.or_false,Bool.true_and,Bool.false_and,Bool.and_true,Bool.and_false]
    · unfold badN; dsimp only; simp only [c1,c2,c3,c4,c5,c6,c7,c8,Bool.true_or,Bool.or_true,Bool.false_or,Bool.or_false,Bool.true_and,Bool.false_and,Bool.and_true,Bool.and_false]
    rotate_left
    · unfold badN; dsimp only; simp only [c1,c2,c3,c4,c5,c7,Bool.true_or,Bool.or_true,Bool.false_or,Bool.or_false,Bool.true_and,Bool.false_and,Bool.and_true,Bool.and_false]
    · unfold badN; dsimp only; simp only [c1,c2,c3,c4,c5,c7,c8,Bool.true_or,Bool.or_true,Bool.false_or,Bool.or_false,Bool.true_and,Bool.false_and,Bool.and_true,Bool.and_false]
    rotate_left
    · have hb:=good (by unfold badN; dsimp only; simp only [c1,c2,c3,c4,c5,c6,c7,c8,Bool.true_or,Bool.or_true,Bool.false_or,Bool.or_false,Bool.true_and,Bool.false_and,Bool.and_true,Bool.and_false])
      refine ⟨hh,fun d1 => fin _ ?_,fun d1 => ⟨fun d2 => fin _ ?_,fun d2 => ⟨⟨by decide,by omega,rfl,hl⟩,fun d3 => fin _ ?_,fun d3 => ⟨by omega,fun d4 => fin _ ?_,fun d4 => ⟨hl,fun d5 => ⟨fun d6 => fin _ ?_,fun d6 => fin _ ?_⟩,fun d5 => ⟨?_,fun d7 => ⟨fun d6 => fin _ ?_,fun d6 => fin _ ?_⟩,fun d7 => ⟨fun d8 => fin _ ?_,fun d8 => fin _ ?_⟩⟩⟩⟩⟩⟩⟩
      all_goals try rw [hb]
      · rw [if_pos (by simpa using d1)]
      all_goals have d1:houseE (s_5,s_6,s_7) = 0:=by simpa using d1
      all_goals try rw [if_neg (fun h => h d1)]
      · have d2:=of_decide_eq_true d2
        rw [if_pos (by omega)]
      all_goals have d2:=of_decide_eq_false d2
      all_goals try rw [if_neg (by omega)]
      · have d3:ordB (-1) s_8 = true:=d3
        rw [if_pos d3]
      all_goals have d3:ordB (-1) s_8 = false:=d3
      all_goals try rw [if_neg (by rw [d3]; decide)]
      · rw [if_pos d4]
      all_goals try rw [if_neg (by rw [d4]; decide)]
      · rw [d5,Bool.true_or,if_pos rfl,if_pos (by simpa using d6)]
      · rw [d5,Bool.true_or,if_pos rfl,if_neg (by simpa using d6)]
      · exact d1
      all_goals rw [d5,d7,Bool.false_or]
      · rw [if_pos rfl,if_pos (by simpa using d6)]
      · rw [if_pos rfl,if_neg (by simpa using d6)]
      · rw [if_neg (by decide),if_pos (by simpa using d8)]
      · rw [if_neg (by decide),if_neg (by simpa using d8)]
    · have hb:=good (by unfold badN; dsimp only; simp only [c1,c2,c3,c4,c5,c7,c8,Bool.true_or,Bool.or_true,Bool.false_or,Bool.or_false,Bool.true_and,Bool.false_and,Bool.and_true,Bool.and_false])
      refine ⟨hh,fun d1 => fin _ ?_,fun d1 => ⟨fun d2 => fin _ ?_,fun d2 => ⟨⟨by decide,by omega,rfl,hl⟩,fun d3 => fin _ ?_,fun d3 => ⟨by omega,fun d4 => fin _ ?_,fun d4 => ⟨hl,fun d5 => ⟨fun d6 => fin _ ?_,fun d6 => fin _ ?_⟩,fun d5 => ⟨?_,fun d7 => ⟨fun d6 => fin _ ?_,fun d6 => fin _ ?_⟩,fun d7 => ⟨fun d8 => fin _ ?_,fun d8 => fin _ ?_⟩⟩⟩⟩⟩⟩⟩
      all_goals try rw [hb]
      · rw [if_pos (by simpa using d1)]
      all_goals have d1:houseE (s_5,s_6,s_7) = 0:=by simpa using d1
      all_goals try rw [if_neg (fun h => h d1)]
      · have d2:=of_decide_eq_true d2
        rw [if_pos (by omega)]
      all_goals have d2:=of_decide_eq_false d2
      all_goals try rw [if_neg (by omega)]
      · have d3:ordB (-1) s_8 = true:=d3
        rw [if_pos d3]
      all_goals have d3:ordB (-1) s_8 = false:=d3
      all_goals try rw [if_neg (by rw [d3]; decide)]
      · rw [if_pos d4]
      all_goals try rw [if_neg (by rw [d4]; decide)]
      · rw [d5,Bool.true_or,if_pos rfl,if_pos (by simpa using d6)]
      · rw [d5,Bool.true_or,if_pos rfl,if_neg (by simpa using d6)]
      · exact d1
      all_goals rw [d5,d7,Bool.false_or]
      · rw [if_pos rfl,if_pos (by simpa using d6)]
      · rw [if_pos rfl,if_neg (by simpa using d6)]
      · rw [if_neg (by decide),if_pos (by simpa using d8)]
      · rw [if_neg (by decide),if_neg (by simpa using d8)])
end
end Go.MB
