/- Proven barriers: tests. -/
import Derived.Test.YtdoobpeacbcohaaGreatMgA
import Derived.Test.YtdoobpeacbcohaaGreatMgB
namespace Go.MB
open Go Go.Sx Go.Proofs
set_option linter.unusedVariables false
set_option linter.unusedSimpArgs false
noncomputable section
abbrev tTst:Ty:=.pair tI (.pair .bool tI)
def hitT (q now:Int) (x:Tst):Bool:=!x.2.1 && wi x.2.2 q now
def okT (l:List Tst) (need now age:Int) (t:Tst):Bool:=t.2.1 && (decide (need ≤ t.1) && (decide (t.2.2 ≤ now) && (decide (now - t.2.2 ≤ age) && !(l.any (hitT t.2.2 now)))))
def TOk (now age:Int) (m:List Tst) (x:Tst):Prop:=(0 ≤ x.2.2 ∧ x.2.2 ≤ 2199023255552) ∧ (0 ≤ now ∧ now ≤ 2199023255552) ∧ (0 ≤ age ∧ age ≤ 2199023255552) ∧ (m.length:Int) < 2 ^ 62
theorem T_cwithin (n a b:Int):fnTree (P:=P) [] (lpOf []) Tryz.f32 (encL 0 [.val tI,.val tI,.val tI] (n,a,b,())) =
  Tree.cond (decide (a ≤ n)) (.leaf (SV.bool (decide (n ≤ b)))) (.leaf (SV.bool false)):=by kernel_rfl
def c_cwithin:PC P:=PC.of (α:=Int × Int × Int × Unit) 32 [.val tI,.val tI,.val tI] (fun x => x) (fun x => x) (fun _ => rfl)
  (fun _ => none)
  (fun x => .bool (wi x.1 x.2.1 x.2.2.1)) (by kernel_rfl) (by
    rintro ⟨n,a,b,⟨⟩⟩ hp
    refine fn_of hm (by kernel_rfl) (by kernel_rfl) (T_cwithin n a b) trivial ?_
    try dsimp only at hp
    try dsimp only
    refine ⟨fun c1 => ?_,fun c1 => ?_⟩
    · exact congrArg SV.bool (show _ = wi n a b by unfold wi; rw [c1,Bool.true_and])
    · exact congrArg SV.bool (show _ = wi n a b by unfold wi; rw [c1,Bool.false_and]))
def L_prov11:Lay:={ slots:=[(0,.agg tTst),(1,.ptr 1 0),(2,.ptr 2 0)],boxes:=[(1,[.val tI,.val .bool,.val tI]),(2,[.val tI])] }
theorem T_prov11 (x0:Int) (x1:Bool) (x2:Int) (p:Int) (hd:Bool) (q now:Int):mTree (P:=P) [c_cwithin.gc] (lpOf []) Tryz.f31 L_prov11 true ((x0,x1,x2),(),(),p,hd,q,now,()) =
  Tree.cond (!x1) (.leaf { res:=SV.bool (wi x2 q now),boxes:=[[SV.int IntKind.i64 p,SV.bool hd,SV.int IntKind.i64 q],[SV.int IntKind.i64 now]] }) (.leaf { res:=SV.bool false,boxes:=[[SV.int IntKind.i64 p,SV.bool hd,SV.int IntKind.i64 q],[SV.int IntKind.i64 now]] }):=by kernel_rfl
def c_prov11:MC P:=MC.of (α:=Tst × Unit × Unit × Int × Bool × Int × Int × Unit) 31 L_prov11 (fun x => x) (fun x => x) (fun _ => rfl)
  (fun _ => none)
  (fun (x,_,_,p,hd,q,now,_) => ⟨.bool (hitT q now x),[[.int .i64 p,.bool hd,.int .i64 q],[.int .i64 now]],[]⟩) (by kernel_rfl) (by kernel_rfl) (by kernel_rfl) (by
    rintro ⟨⟨x0,x1,x2⟩,⟨⟩,⟨⟩,p,hd,q,now,⟨⟩⟩ hp
    refine m_of hm (own:=true) (by kernel_rfl) (by kernel_rfl) (by kernel_rfl) (T_prov11 x0 x1 x2 p hd q now) trivial ?_
    have fin:∀ n:Bool,n = hitT q now (x0,x1,x2) → (⟨SV.bool n,[[.int .i64 p,.bool hd,.int .i64 q],[.int .i64 now]],[]⟩ : MOut) = ⟨SV.bool (hitT q now (x0,x1,x2)),[[.int .i64 p,.bool hd,.int .i64 q],[.int .i64 now]],[]⟩:=fun n h => by rw [h]
    refine ⟨fun c1 => fin _ ?_,fun c1 => fin _ ?_⟩
    · show _ = (!x1 && wi x2 q now)
      rw [c1,Bool.true_and]
    · show _ = (!x1 && wi x2 q now)
      rw [c1,Bool.false_and])
def L_ixU0:Lay:={ slots:=[(0,.val (.sl tTst)),(1,.clo 31 [(1,0),(2,0)])],boxes:=[(1,[.val tI,.val .bool,.val tI]),(2,[.val tI])] }
def L_ixUL:Lay:={ slots:=[(0,.val (.sl tTst)),(1,.clo 31 [(1,0),(2,0)]),(7,.val tI),(8,.val tI)],boxes:=[(1,[.val tI,.val .bool,.val tI]),(2,[.val tI])] }
def L_ixUL_0:Lay:={ slots:=[],boxes:=[(1,[.val tI,.val .bool,.val tI]),(2,[.val tI])] }
def L_ixUL_1:Lay:={ slots:=[(4,.val tI)],boxes:=[(1,[.val tI,.val .bool,.val tI]),(2,[.val tI])] }
def X_ixUL:Exit → St → Option Lay
  | .exit 0,_ => some L_ixUL_0
  | .ret,_ => some L_ixUL_1
  | _,_ => none
abbrev C_ixUL:Code:=loopC (bodyOf Tryz.f56) 0
theorem B_ixUL (l:List Tst) (n i:Int) (p:Int) (hd:Bool) (q now:Int):loopBodyA (P:=P) [c_prov11.gc] (lpOf []) [] 19 (usd noU (L_ixU0.ids ++ rowIds rowBase L_ixU0.shs)) (inner C_ixUL) L_ixUL X_ixUL (α:=List Tst × Unit × Int × Int × Int × Bool × Int × Int × Unit) (fun x => x) (fun x => x) (l,(),n,i,p,hd,q,now,()) =
  Tree.cond (decide (i < n)) (.need ((0:Int) ≤ i ∧ i < (l.length:Int)) (.cond (hitT q now (List.getD l (Int.toNat i) ((0:Int),false,(0:Int)))) (.leaf (Sum.inr (Exit.ret,Lay.st L_ixUL_1 (usd noU (Lay.ids L_ixU0 ++ rowIds rowBase (Lay.shs L_ixU0))) (i,p,hd,q,now,())))) (.leaf (Sum.inl (l,(),n,IntKind.i64.wrap (i + (1:Int)),p,hd,q,now,()))))) (.leaf (Sum.inr (Exit.exit (0:Nat),Lay.st L_ixUL_0 (usd noU (Lay.ids L_ixU0 ++ rowIds rowBase (Lay.shs L_ixU0))) (p,hd,q,now,())))):=by kernel_rfl
def inv_ixUL:List Tst × Unit × Int × Int × Int × Bool × Int × Int × Unit → Prop:=fun (l,_,n,i,p,hd,q,now,_) => n = l.length ∧ 0 ≤ i ∧ i ≤ n ∧ (l.length:Int) < 2 ^ 62
def O_ixUL:List Tst × Unit × Int × Int × Int × Bool × Int × Int × Unit → Tree (Exit × St):=fun (l,_,n,i,p,hd,q,now,_) => .cond ((l.drop i.toNat).any (hitT q now)) (.leaf (.ret,L_ixUL_1.st (usd noU (L_ixU0.ids ++ rowIds rowBase L_ixU0.shs)) (ixR (hitT q now) l i,p,hd,q,now,()))) (.leaf (.exit 0,L_ixUL_0.st (usd noU (L_ixU0.ids ++ rowIds rowBase L_ixU0.shs)) (p,hd,q,now,())))
def R_ixUL:LRun:=runOf 19 L_ixUL (fun x => x) (inv_ixUL) (O_ixUL)
theorem K_ixUL:LoopOk P [] 19 none (usd noU (L_ixU0.ids ++ rowIds rowBase L_ixU0.shs)) C_ixUL (R_ixUL):=by
  refine loop_of hm (cx:=[c_prov11.gc]) [] (xl:=X_ixUL) (α:=List Tst × Unit × Int × Int × Int × Bool × Int × Int × Unit) (fun x => x) (fun (l,_,n,i,p,hd,q,now,_) => (n - i).toNat) (fun _ => rfl) (by kernel_rfl) (by kernel_rfl) ?_ (by kernel_rfl) trivial ?_
  · intro e S L' h
    unfold X_ixUL at h
    split at h <;> first | (cases h; done) | (cases h; kernel_rfl) | (rcases bif_some h with h | h <;> cases h <;> kernel_rfl)
  · rintro ⟨l,⟨⟩,n,i,p,hd,q,now,⟨⟩⟩ hinv Q hQ
    refine hold_of_eq (B_ixUL l n i p hd q now) ?_
    obtain ⟨rfl,h0,h1,h2⟩:=hinv
    rw [W_id (n:=i + 1) (by omega) (by omega)]
    unfold O_ixUL at hQ
    dsimp only at hQ
    refine ⟨fun hi => ?_,fun hi => ?_⟩
    · simp only [decide_eq_true_eq] at hi
      have hm:((l.length:Int) - (i + 1)).toNat < ((l.length:Int) - i).toNat:=by omega
      obtain ⟨e1,e2,e3⟩:=ix_step (p:=hitT q now) ((0,false,0):Tst) h0 hi
      rw [e1] at hQ
      refine ⟨⟨h0,hi⟩,fun hp => ?_,fun hp => ?_⟩
      · replace hp:(hitT q now) (l.getD i.toNat ((0,false,0):Tst)) = true:=hp
        rw [hp,Bool.true_or,e2 hp] at hQ
        exact hQ.1 rfl
      · replace hp:(hitT q now) (l.getD i.toNat ((0,false,0):Tst)) = false:=hp
        rw [hp,Bool.false_or,e3 hp] at hQ
        exact ⟨⟨⟨rfl,by omega,by omega,h2⟩,hm⟩,hQ⟩
    · simp only [decide_eq_false_iff_not] at hi
      rw [drop_end hi] at hQ
      exact hQ.2 rfl
def L_ixU:Lay:={ slots:=[(0,.val (.sl tTst)),(1,.clo 31 [(1,0),(2,0)])],boxes:=[(1,[.val tI,.val .bool,.val tI]),(2,[.val tI])] }
theorem T_ixU (l:List Tst) (p:Int) (hd:Bool) (q now:Int):mTree (P:=P) [] (lpOf [(0,R_ixUL)]) Tryz.f56 L_ixU true (l,(),p,hd,q,now,()) =
  Tree.need (inv_ixUL (l,(),(l.length:Int),(0:Int),p,hd,q,now,())) (.cond (List.any (List.drop (Int.toNat (0:Int)) l) (hitT q now)) (.leaf { res:=SV.int IntKind.i64 (ixR (hitT q now) l (0:Int)),boxes:=[[SV.int IntKind.i64 p,SV.bool hd,SV.int IntKind.i64 q],[SV.int IntKind.i64 now]] }) (.leaf { res:=SV.int IntKind.i64 (-1:Int),boxes:=[[SV.int IntKind.i64 p,SV.bool hd,SV.int IntKind.i64 q],[SV.int IntKind.i64 now]] })):=by kernel_rfl
def c_ixU:MC P:=MC.of (α:=List Tst × Unit × Int × Bool × Int × Int × Unit) 56 L_ixU (fun x => x) (fun x => x) (fun _ => rfl)
  (fun (l,_,p,hd,q,now,_) => some ((l.length:Int) < 2 ^ 62))
  (fun (l,_,p,hd,q,now,_) => ⟨.int .i64 (ixS (hitT q now) l),[[.int .i64 p,.bool hd,.int .i64 q],[.int .i64 now]],[]⟩) (by kernel_rfl) (by kernel_rfl) (by kernel_rfl) (by
    rintro ⟨l,⟨⟩,p,hd,q,now,⟨⟩⟩ hp
    refine m_of hm (own:=true) (by kernel_rfl) (by kernel_rfl) (by kernel_rfl) (T_ixU l p hd q now) ⟨K_ixUL,trivial⟩ ?_
    refine ⟨⟨rfl,by omega,by omega,hp⟩,fun h => ?_,fun h => ?_⟩
    · simp only [Int.toNat_zero,List.drop_zero] at h
      have e:ixR (hitT q now) l 0 = ixS (hitT q now) l:=by
        unfold ixS ixR
        rw [if_pos h]
        simp only [Int.toNat_zero,List.drop_zero,Int.zero_add]
      exact congrArg (fun k:Int => (⟨.int .i64 k,[[.int .i64 p,.bool hd,.int .i64 q],[.int .i64 now]],[]⟩ : MOut)) e
    · simp only [Int.toNat_zero,List.drop_zero] at h
      have e : -1 = ixS (hitT q now) l:=by
        unfold ixS
        rw [if_neg (by simp only [h]; decide)]
      exact congrArg (fun k:Int => (⟨.int .i64 k,[[.int .i64 p,.bool hd,.int .i64 q],[.int .i64 now]],[]⟩ : MOut)) e)
def L_ixUC:Lay:={ slots:=[(0,.val (.sl tTst)),(1,.clo 31 [(1,0),(2,0)])],boxes:=[(1,[.val tI,.val .bool,.val tI]),(2,[.val tI])] }
theorem T_ixUC (l:List Tst) (p:Int) (hd:Bool) (q now:Int):mTree (P:=P) [c_ixU.gc] (lpOf []) Tryz.f29 L_ixUC true (l,(),p,hd,q,now,()) =
  Tree.need ((l.length:Int) < (2:Int) ^ (62:Nat)) (.leaf { res:=SV.bool (decide (ixS (hitT q now) l ≥ (0:Int))),boxes:=[[SV.int IntKind.i64 p,SV.bool hd,SV.int IntKind.i64 q],[SV.int IntKind.i64 now]] }):=by kernel_rfl
def c_ixUC:MC P:=MC.of (α:=List Tst × Unit × Int × Bool × Int × Int × Unit) 29 L_ixUC (fun x => x) (fun x => x) (fun _ => rfl)
  (fun (l,_,p,hd,q,now,_) => some ((l.length:Int) < 2 ^ 62))
  (fun (l,_,p,hd,q,now,_) => ⟨.bool (l.any (hitT q now)),[[.int .i64 p,.bool hd,.int .i64 q],[.int .i64 now]],[]⟩) (by kernel_rfl) (by kernel_rfl) (by kernel_rfl) (by
    rintro ⟨l,⟨⟩,p,hd,q,now,⟨⟩⟩ hp
    refine m_of hm (own:=true) (by kernel_rfl) (by kernel_rfl) (by kernel_rfl) (T_ixUC l p hd q now) trivial ?_
    exact ⟨hp,congrArg (fun k:Bool => (⟨.bool k,[[.int .i64 p,.bool hd,.int .i64 q],[.int .i64 now]],[]⟩ : MOut)) (ixS_ge (hitT q now) l)⟩)
def L_prov1:Lay:={ slots:=[(0,.agg tTst),(1,.ptr 1 0),(2,.ptr 2 0),(3,.ptr 3 0),(4,.ptr 4 0)],boxes:=[(1,[.val tI]),(2,[.val tI]),(3,[.val tI]),(4,[.val (.sl tTst)])] }
theorem T_prov1 (x0:Int) (x1:Bool) (x2:Int) (need now age:Int) (l:List Tst):mTree (P:=P) [c_ixUC.gc] (lpOf []) Tryz.f30 L_prov1 true ((x0,x1,x2),(),(),(),(),need,now,age,l,()) =
  Tree.cond (!x1) (.leaf { res:=SV.bool false,boxes:=[[SV.int IntKind.i64 need],[SV.int IntKind.i64 now],[SV.int IntKind.i64 age],[SV.sl tTst l]] }) (.cond (decide (x0 < need)) (.leaf { res:=SV.bool false,boxes:=[[SV.int IntKind.i64 need],[SV.int IntKind.i64 now],[SV.int IntKind.i64 age],[SV.sl tTst l]] }) (.cond (decide (x2 > now)) (.leaf { res:=SV.bool false,boxes:=[[SV.int IntKind.i64 need],[SV.int IntKind.i64 now],[SV.int IntKind.i64 age],[SV.sl tTst l]] }) (.cond (decide (IntKind.u64.wrap (IntKind.i64.wrap (now - x2)) > IntKind.u64.wrap age)) (.leaf { res:=SV.bool false,boxes:=[[SV.int IntKind.i64 need],[SV.int IntKind.i64 now],[SV.int IntKind.i64 age],[SV.sl tTst l]] }) (.need ((l.length:Int) < (2:Int) ^ (62:Nat)) (.leaf { res:=SV.bool !List.any l (hitT x2 now),boxes:=[[SV.int IntKind.i64 need],[SV.int IntKind.i64 now],[SV.int IntKind.i64 age],[SV.sl tTst l]] }))))):=by kernel_rfl
def c_prov1:MC P:=MC.of (α:=Tst × Unit × Unit × Unit × Unit × Int × Int × Int × List Tst × Unit) 30 L_prov1 (fun x => x) (fun x => x) (fun _ => rfl)
  (fun (x,_,_,_,_,need,now,age,l,_) => some (TOk now age l x))
  (fun (x,_,_,_,_,need,now,age,l,_) => ⟨.bool (okT l need now age x),[[.int .i64 need],[.int .i64 now],[.int .i64 age],[.sl tTst l]],[]⟩) (by kernel_rfl) (by kernel_rfl) (by kernel_rfl) (by
    rintro ⟨⟨x0,x1,x2⟩,⟨⟩,⟨⟩,⟨⟩,⟨⟩,need,now,age,l,⟨⟩⟩ hp
    refine m_of hm (own:=true) (by kernel_rfl) (by kernel_rfl) (by kernel_rfl) (T_prov1 x0 x1 x2 need now age l) trivial ?_
    have fin:∀ n:Bool,n = okT l need now age (x0,x1,x2) → (⟨SV.bool n,[[.int .i64 need],[.int .i64 now],[.int .i64 age],[.sl tTst l]],[]⟩ : MOut) = ⟨SV.bool (okT l need now age (x0,x1,x2)),[[.int .i64 need],[.int .i64 now],[.int .i64 age],[.sl tTst l]],[]⟩:=fun n h => by rw [h]
    obtain ⟨⟨h1,h2⟩,⟨h3,h4⟩,⟨h5,h6⟩,h7⟩ : TOk now age l (x0,x1,x2):=hp
    dsimp only at h1 h2
    rw [W_id (n:=now - x2) (by omega) (by omega),IntKind.wrap_u64,IntKind.wrap_u64]
    refine ⟨fun c1 => fin _ ?_,fun c1 => ⟨fun c2 => fin _ ?_,fun c2 => ⟨fun c3 => fin _ ?_,fun c3 => ⟨fun c4 => fin _ ?_,fun c4 => ⟨h7,fin _ ?_⟩⟩⟩⟩⟩
    all_goals
      show _ = (x1 && (decide (need ≤ x0) && (decide (x2 ≤ now) && (decide (now - x2 ≤ age) && !(l.any (hitT x2 now))))))
    · rw [show x1 = false by simpa using c1]
      rfl
    · rw [decide_eq_false (show ¬ need ≤ x0 by have:=of_decide_eq_true c2; omega),Bool.false_and,Bool.and_false]
    · rw [decide_eq_false (show ¬ x2 ≤ now by have:=of_decide_eq_true c3; omega),Bool.false_and,Bool.and_false,Bool.and_false]
    · have c3:=of_decide_eq_false c3
      have c4:=of_decide_eq_true c4
      rw [decide_eq_false (show ¬ now - x2 ≤ age by omega),Bool.false_and,Bool.and_false,Bool.and_false,Bool.and_false]
    · have c2:=of_decide_eq_false c2
      have c3:=of_decide_eq_false c3
      have c4:=of_decide_eq_false c4
      rw [show x1 = true by simpa using c1,decide_eq_true (show need ≤ x0 by omega),decide_eq_true (show x2 ≤ now by omega),decide_eq_true (show now - x2 ≤ age by omega)]
      rfl)
def L_ixV0:Lay:={ slots:=[(0,.val (.sl tTst)),(1,.clo 30 [(1,0),(2,0),(3,0),(4,0)])],boxes:=[(1,[.val tI]),(2,[.val tI]),(3,[.val tI]),(4,[.val (.sl tTst)])] }
def L_ixVL:Lay:={ slots:=[(0,.val (.sl tTst)),(1,.clo 30 [(1,0),(2,0),(3,0),(4,0)]),(7,.val tI),(8,.val tI)],boxes:=[(1,[.val tI]),(2,[.val tI]),(3,[.val tI]),(4,[.val (.sl tTst)])] }
def L_ixVL_0:Lay:={ slots:=[],boxes:=[(1,[.val tI]),(2,[.val tI]),(3,[.val tI]),(4,[.val (.sl tTst)])] }
def L_ixVL_1:Lay:={ slots:=[(4,.val tI)],boxes:=[(1,[.val tI]),(2,[.val tI]),(3,[.val tI]),(4,[.val (.sl tTst)])] }
def X_ixVL:Exit → St → Option Lay
  | .exit 0,_ => some L_ixVL_0
  | .ret,_ => some L_ixVL_1
  | _,_ => none
abbrev C_ixVL:Code:=loopC (bodyOf Tryz.f56) 0
theorem B_ixVL (l:List Tst) (n i:Int) (need now age:Int) (m:List Tst):loopBodyA (P:=P) [c_prov1.gc] (lpOf []) [] 19 (usd noU (L_ixV0.ids ++ rowIds rowBase L_ixV0.shs)) (inner C_ixVL) L_ixVL X_ixVL (α:=List Tst × Unit × Int × Int × Int × Int × Int × List Tst × Unit) (fun x => x) (fun x => x) (l,(),n,i,need,now,age,m,()) =
  Tree.cond (decide (i < n)) (.need ((0:Int) ≤ i ∧ i < (l.length:Int)) (.need (TOk now age m (List.getD l (Int.toNat i) ((0:Int),false,(0:Int)))) (.cond (okT m need now age (List.getD l (Int.toNat i) ((0:Int),false,(0:Int)))) (.leaf (Sum.inr (Exit.ret,Lay.st L_ixVL_1 (usd noU (Lay.ids L_ixV0 ++ rowIds rowBase (Lay.shs L_ixV0))) (i,need,now,age,m,())))) (.leaf (Sum.inl (l,(),n,IntKind.i64.wrap (i + (1:Int)),need,now,age,m,())))))) (.leaf (Sum.inr (Exit.exit (0:Nat),Lay.st L_ixVL_0 (usd noU (Lay.ids L_ixV0 ++ rowIds rowBase (Lay.shs L_ixV0))) (need,now,age,m,())))):=by kernel_rfl
def inv_ixVL:List Tst × Unit × Int × Int × Int × Int × Int × List Tst × Unit → Prop:=fun (l,_,n,i,need,now,age,m,_) => n = l.length ∧ 0 ≤ i ∧ i ≤ n ∧ (l.length:Int) < 2 ^ 62 ∧ ∀ x ∈ l,TOk now age m x
def O_ixVL:List Tst × Unit × Int × Int × Int × Int × Int × List Tst × Unit → Tree (Exit × St):=fun (l,_,n,i,need,now,age,m,_) => .cond ((l.drop i.toNat).any (okT m need now age)) (.leaf (.ret,L_ixVL_1.st (usd noU (L_ixV0.ids ++ rowIds rowBase L_ixV0.shs)) (ixR (okT m need now age) l i,need,now,age,m,()))) (.leaf (.exit 0,L_ixVL_0.st (usd noU (L_ixV0.ids ++ rowIds rowBase L_ixV0.shs)) (need,now,age,m,())))
def R_ixVL:LRun:=runOf 19 L_ixVL (fun x => x) (inv_ixVL) (O_ixVL)
theorem K_ixVL:LoopOk P [] 19 none (usd noU (L_ixV0.ids ++ rowIds rowBase L_ixV0.shs)) C_ixVL (R_ixVL):=by
  refine loop_of hm (cx:=[c_prov1.gc]) [] (xl:=X_ixVL) (α:=List Tst × Unit × Int × Int × Int × Int × Int × List Tst × Unit) (fun x => x) (fun (l,_,n,i,need,now,age,m,_) => (n - i).toNat) (fun _ => rfl) (by kernel_rfl) (by kernel_rfl) ?_ (by kernel_rfl) trivial ?_
  · intro e S L' h
    unfold X_ixVL at h
    split at h <;> first | (cases h; done) | (cases h; kernel_rfl) | (rcases bif_some h with h | h <;> cases h <;> kernel_rfl)
  · rintro ⟨l,⟨⟩,n,i,need,now,age,m,⟨⟩⟩ hinv Q hQ
    refine hold_of_eq (B_ixVL l n i need now age m) ?_
    obtain ⟨rfl,h0,h1,h2,h9⟩:=hinv
    rw [W_id (n:=i + 1) (by omega) (by omega)]
    unfold O_ixVL at hQ
    dsimp only at hQ
    refine ⟨fun hi => ?_,fun hi => ?_⟩
    · simp only [decide_eq_true_eq] at hi
      have hm:((l.length:Int) - (i + 1)).toNat < ((l.length:Int) - i).toNat:=by omega
      obtain ⟨e1,e2,e3⟩:=ix_step (p:=okT m need now age) ((0,false,0):Tst) h0 hi
      rw [e1] at hQ
      refine ⟨⟨h0,hi⟩,h9 _ (getD_mem (d:=((0,false,0):Tst)) (show i.toNat < l.length by omega)),fun hp => ?_,fun hp => ?_⟩
      · replace hp:(okT m need now age) (l.getD i.toNat ((0,false,0):Tst)) = true:=hp
        rw [hp,Bool.true_or,e2 hp] at hQ
        exact hQ.1 rfl
      · replace hp:(okT m need now age) (l.getD i.toNat ((0,false,0):Tst)) = false:=hp
        rw [hp,Bool.false_or,e3 hp] at hQ
        exact ⟨⟨⟨rfl,by omega,by omega,h2,h9⟩,hm⟩,hQ⟩
    · simp only [decide_eq_false_iff_not] at hi
      rw [drop_end hi] at hQ
      exact hQ.2 rfl
def L_ixV:Lay:={ slots:=[(0,.val (.sl tTst)),(1,.clo 30 [(1,0),(2,0),(3,0),(4,0)])],boxes:=[(1,[.val tI]),(2,[.val tI]),(3,[.val tI]),(4,[.val (.sl tTst)])] }
theorem T_ixV (l:List Tst) (need now age:Int) (m:List Tst):mTree (P:=P) [] (lpOf [(0,R_ixVL)]) Tryz.f56 L_ixV true (l,(),need,now,age,m,()) =
  Tree.need (inv_ixVL (l,(),(l.length:Int),(0:Int),need,now,age,m,())) (.cond (List.any (List.drop (Int.toNat (0:Int)) l) (okT m need now age)) (.leaf { res:=SV.int IntKind.i64 (ixR (okT m need now age) l (0:Int)),boxes:=[[SV.int IntKind.i64 need],[SV.int IntKind.i64 now],[SV.int IntKind.i64 age],[SV.sl tTst m]] }) (.leaf { res:=SV.int IntKind.i64 (-1:Int),boxes:=[[SV.int IntKind.i64 need],[SV.int IntKind.i64 now],[SV.int IntKind.i64 age],[SV.sl tTst m]] })):=by kernel_rfl
def c_ixV:MC P:=MC.of (α:=List Tst × Unit × Int × Int × Int × List Tst × Unit) 56 L_ixV (fun x => x) (fun x => x) (fun _ => rfl)
  (fun (l,_,need,now,age,m,_) => some ((l.length:Int) < 2 ^ 62 ∧ ∀ x ∈ l,TOk now age m x))
  (fun (l,_,need,now,age,m,_) => ⟨.int .i64 (ixS (okT m need now age) l),[[.int .i64 need],[.int .i64 now],[.int .i64 age],[.sl tTst m]],[]⟩) (by kernel_rfl) (by kernel_rfl) (by kernel_rfl) (by
    rintro ⟨l,⟨⟩,need,now,age,m,⟨⟩⟩ hp
    refine m_of hm (own:=true) (by kernel_rfl) (by kernel_rfl) (by kernel_rfl) (T_ixV l need now age m) ⟨K_ixVL,trivial⟩ ?_
    refine ⟨⟨rfl,by omega,by omega,hp.1,hp.2⟩,fun h => ?_,fun h => ?_⟩
    · simp only [Int.toNat_zero,List.drop_zero] at h
      have e:ixR (okT m need now age) l 0 = ixS (okT m need now age) l:=by
        unfold ixS ixR
        rw [if_pos h]
        simp only [Int.toNat_zero,List.drop_zero,Int.zero_add]
      exact congrArg (fun k:Int => (⟨.int .i64 k,[[.int .i64 need],[.int .i64 now],[.int .i64 age],[.sl tTst m]],[]⟩ : MOut)) e
    · simp only [Int.toNat_zero,List.drop_zero] at h
      have e : -1 = ixS (okT m need now age) l:=by
        unfold ixS
        rw [if_neg (by simp only [h]; decide)]
      exact congrArg (fun k:Int => (⟨.int .i64 k,[[.int .i64 need],[.int .i64 now],[.int .i64 age],[.sl tTst m]],[]⟩ : MOut)) e)
def L_ixVC:Lay:={ slots:=[(0,.val (.sl tTst)),(1,.clo 30 [(1,0),(2,0),(3,0),(4,0)])],boxes:=[(1,[.val tI]),(2,[.val tI]),(3,[.val tI]),(4,[.val (.sl tTst)])] }
theorem T_ixVC (l:List Tst) (need now age:Int) (m:List Tst):mTree (P:=P) [c_ixV.gc] (lpOf []) Tryz.f29 L_ixVC true (l,(),need,now,age,m,()) =
  Tree.need ((l.length:Int) < (2:Int) ^ (62:Nat) ∧ ∀ (x:Tst),x ∈ l → TOk now age m x) (.leaf { res:=SV.bool (decide (ixS (okT m need now age) l ≥ (0:Int))),boxes:=[[SV.int IntKind.i64 need],[SV.int IntKind.i64 now],[SV.int IntKind.i64 age],[SV.sl tTst m]] }):=by kernel_rfl
def c_ixVC:MC P:=MC.of (α:=List Tst × Unit × Int × Int × Int × List Tst × Unit) 29 L_ixVC (fun x => x) (fun x => x) (fun _ => rfl)
  (fun (l,_,need,now,age,m,_) => some ((l.length:Int) < 2 ^ 62 ∧ ∀ x ∈ l,TOk now age m x))
  (fun (l,_,need,now,age,m,_) => ⟨.bool (l.any (okT m need now age)),[[.int .i64 need],[.int .i64 now],[.int .i64 age],[.sl tTst m]],[]⟩) (by kernel_rfl) (by kernel_rfl) (by kernel_rfl) (by
    rintro ⟨l,⟨⟩,need,now,age,m,⟨⟩⟩ hp
    refine m_of hm (own:=true) (by kernel_rfl) (by kernel_rfl) (by kernel_rfl) (T_ixVC l need now age m) trivial ?_
    exact ⟨hp,congrArg (fun k:Bool => (⟨.bool k,[[.int .i64 need],[.int .i64 now],[.int .i64 age],[.sl tTst m]],[]⟩ : MOut)) (ixS_ge (okT m need now age) l)⟩)
theorem T_Proven (l:List (Int × (Bool × Int))) (need now age:Int):fnTree (P:=P) [c_ixVC.gc] (lpOf []) Tryz.f10 (encL 0 [.val (.sl (.pair tI (.pair .bool tI))),.val tI,.val tI,.val tI] (l,need,now,age,())) =
  Tree.cond (decide ((l.length:Int) > (24:Int))) (.leaf (SV.bool false)) (.cond (decide (age < (0:Int))) (.leaf (SV.bool false)) (.need ((l.length:Int) < (2:Int) ^ (62:Nat) ∧ ∀ (x:Tst),x ∈ l → TOk now age l x) (.leaf (SV.bool (List.any l (okT l need now age)))))):=by kernel_rfl
def c_Proven:PC P:=PC.of (α:=List (Int × (Bool × Int)) × Int × Int × Int × Unit) 10 [.val (.sl (.pair tI (.pair .bool tI))),.val tI,.val tI,.val tI] (fun x => x) (fun x => x) (fun _ => rfl)
  (fun x => some (x.1.length ≤ 24 ∧ (0 ≤ x.2.2.1 ∧ x.2.2.1 ≤ 2199023255552) ∧ (0 ≤ x.2.2.2.1 ∧ x.2.2.2.1 ≤ 2199023255552) ∧ ∀ t:Tst,t ∈ x.1 → 0 ≤ t.2.2 ∧ t.2.2 ≤ 2199023255552))
  (fun x => .bool (provS x.1 x.2.1 x.2.2.1 x.2.2.2.1)) (by kernel_rfl) (by
    rintro ⟨l,need,now,age,⟨⟩⟩ hp
    refine fn_of hm (by kernel_rfl) (by kernel_rfl) (T_Proven l need now age) trivial ?_
    try dsimp only at hp
    try dsimp only
    obtain ⟨h1,h2,h3,h4⟩ : l.length ≤ 24 ∧ (0 ≤ now ∧ now ≤ 2199023255552) ∧ (0 ≤ age ∧ age ≤ 2199023255552) ∧ ∀ t:Tst,t ∈ l → 0 ≤ t.2.2 ∧ t.2.2 ≤ 2199023255552:=hp
    refine ⟨fun c1 => absurd (of_decide_eq_true c1) (by omega),fun c1 => ⟨fun c2 => absurd (of_decide_eq_true c2) (by omega),fun c2 => ⟨⟨by omega,fun x hx => ⟨h4 x hx,h2,h3,by omega⟩⟩,rfl⟩⟩⟩)
end
end Go.MB
