/- Rigs: a tick. -/
import Derived.Test.YtdoobpeacbcohaaMxX
namespace Go.MR
open Go Go.Sx Go.Proofs
set_option linter.unusedVariables false
set_option linter.unusedSimpArgs false
noncomputable section
def badL (s:List Int) (n:Int):Bool:=!wi n 0 (IntKind.i64.wrap ((s.length:Int) - 1))
def L_stp1:Lay:={ slots:=[(0,.val tI),(1,.ptr 1 0)],boxes:=[(1,[.val tIs])] }
theorem T_stp1 (n:Int) (s:List Int):mTree (P:=P) [c_within.gc] (lpOf []) Try.f30 L_stp1 true (n,(),s,()) =
  Tree.leaf { res:=SV.bool !wi n (0:Int) (IntKind.i64.wrap ((s.length:Int) - (1:Int))),boxes:=[[SV.sl tI s]] }:=by kernel_rfl
def c_stp1:MC P:=MC.of (α:=Int × Unit × List Int × Unit) 30 L_stp1 (fun x => x) (fun x => x) (fun _ => rfl)
  (fun _ => none)
  (fun (n,_,s,_) => ⟨.bool (badL s n),[[.sl tI s]],[]⟩) (by kernel_rfl) (by kernel_rfl) (by kernel_rfl) (by
    rintro ⟨n,⟨⟩,s,⟨⟩⟩ hp
    refine m_of hm (own:=true) (by kernel_rfl) (by kernel_rfl) (by kernel_rfl) (T_stp1 n s) trivial ?_
    exact rfl)
def L_ixL0:Lay:={ slots:=[(0,.val (.sl tI)),(1,.clo 30 [(1,0)])],boxes:=[(1,[.val tIs])] }
def L_ixLL:Lay:={ slots:=[(0,.val (.sl tI)),(1,.clo 30 [(1,0)]),(7,.val tI),(8,.val tI)],boxes:=[(1,[.val tIs])] }
def L_ixLL_0:Lay:={ slots:=[],boxes:=[(1,[.val tIs])] }
def L_ixLL_1:Lay:={ slots:=[(4,.val tI)],boxes:=[(1,[.val tIs])] }
def X_ixLL:Exit → St → Option Lay
  | .exit 0,_ => some L_ixLL_0
  | .ret,_ => some L_ixLL_1
  | _,_ => none
abbrev C_ixLL:Code:=loopC (bodyOf Try.f54) 0
theorem B_ixLL (l:List Int) (n i:Int) (s:List Int):loopBodyA (P:=P) [c_stp1.gc] (lpOf []) [] 19 (usd noU (L_ixL0.ids ++ rowIds rowBase L_ixL0.shs)) (inner C_ixLL) L_ixLL X_ixLL (α:=List Int × Unit × Int × Int × List Int × Unit) (fun x => x) (fun x => x) (l,(),n,i,s,()) =
  Tree.cond (decide (i < n)) (.need ((0:Int) ≤ i ∧ i < (l.length:Int)) (.cond (badL s (List.getD l (Int.toNat i) (0:Int))) (.leaf (Sum.inr (Exit.ret,Lay.st L_ixLL_1 (usd noU (Lay.ids L_ixL0 ++ rowIds rowBase (Lay.shs L_ixL0))) (i,s,())))) (.leaf (Sum.inl (l,(),n,IntKind.i64.wrap (i + (1:Int)),s,()))))) (.leaf (Sum.inr (Exit.exit (0:Nat),Lay.st L_ixLL_0 (usd noU (Lay.ids L_ixL0 ++ rowIds rowBase (Lay.shs L_ixL0))) (s,())))):=by kernel_rfl
def inv_ixLL:List Int × Unit × Int × Int × List Int × Unit → Prop:=fun (l,_,n,i,s,_) => n = l.length ∧ 0 ≤ i ∧ i ≤ n ∧ (l.length:Int) < 2 ^ 62
def O_ixLL:List Int × Unit × Int × Int × List Int × Unit → Tree (Exit × St):=fun (l,_,n,i,s,_) => .cond ((l.drop i.toNat).any (badL s)) (.leaf (.ret,L_ixLL_1.st (usd noU (L_ixL0.ids ++ rowIds rowBase L_ixL0.shs)) (ixR (badL s) l i,s,()))) (.leaf (.exit 0,L_ixLL_0.st (usd noU (L_ixL0.ids ++ rowIds rowBase L_ixL0.shs)) (s,())))
def R_ixLL:LRun:=runOf 19 L_ixLL (fun x => x) (inv_ixLL) (O_ixLL)
theorem K_ixLL:LoopOk P [] 19 none (usd noU (L_ixL0.ids ++ rowIds rowBase L_ixL0.shs)) C_ixLL (R_ixLL):=by
  refine loop_of hm (cx:=[c_stp1.gc]) [] (xl:=X_ixLL) (α:=List Int × Unit × Int × Int × List Int × Unit) (fun x => x) (fun (l,_,n,i,s,_) => (n - i).toNat) (fun _ => rfl) (by kernel_rfl) (by kernel_rfl) ?_ (by kernel_rfl) trivial ?_
  · intro e S L' h
    unfold X_ixLL at h
    split at h <;> first | (cases h; done) | (cases h; kernel_rfl) | (rcases bif_some h with h | h <;> cases h <;> kernel_rfl)
  · rintro ⟨l,⟨⟩,n,i,s,⟨⟩⟩ hinv Q hQ
    refine hold_of_eq (B_ixLL l n i s) ?_
    obtain ⟨rfl,h0,h1,h2⟩:=hinv
    rw [W_id (n:=i + 1) (by omega) (by omega)]
    unfold O_ixLL at hQ
    dsimp only at hQ
    refine ⟨fun hi => ?_,fun hi => ?_⟩
    · simp only [decide_eq_true_eq] at hi
      have hm:((l.length:Int) - (i + 1)).toNat < ((l.length:Int) - i).toNat:=by omega
      obtain ⟨e1,e2,e3⟩:=ix_step (p:=badL s) (0:Int) h0 hi
      rw [e1] at hQ
      refine ⟨⟨h0,hi⟩,fun hp => ?_,fun hp => ?_⟩
      · replace hp:(badL s) (l.getD i.toNat (0:Int)) = true:=hp
        rw [hp,Bool.true_or,e2 hp] at hQ
        exact hQ.1 rfl
      · replace hp:(badL s) (l.getD i.toNat (0:Int)) = false:=hp
        rw [hp,Bool.false_or,e3 hp] at hQ
        exact ⟨⟨⟨rfl,by omega,by omega,h2⟩,hm⟩,hQ⟩
    · simp only [decide_eq_false_iff_not] at hi
      rw [drop_end hi] at hQ
      exact hQ.2 rfl
def L_ixL:Lay:={ slots:=[(0,.val (.sl tI)),(1,.clo 30 [(1,0)])],boxes:=[(1,[.val tIs])] }
theorem T_ixL (l:List Int) (s:List Int):mTree (P:=P) [] (lpOf [(0,R_ixLL)]) Try.f54 L_ixL true (l,(),s,()) =
  Tree.need (inv_ixLL (l,(),(l.length:Int),(0:Int),s,())) (.cond (List.any (List.drop (Int.toNat (0:Int)) l) (badL s)) (.leaf { res:=SV.int IntKind.i64 (ixR (badL s) l (0:Int)),boxes:=[[SV.sl tI s]] }) (.leaf { res:=SV.int IntKind.i64 (-1:Int),boxes:=[[SV.sl tI s]] })):=by kernel_rfl
def c_ixL:MC P:=MC.of (α:=List Int × Unit × List Int × Unit) 54 L_ixL (fun x => x) (fun x => x) (fun _ => rfl)
  (fun (l,_,s,_) => some ((l.length:Int) < 2 ^ 62))
  (fun (l,_,s,_) => ⟨.int .i64 (ixS (badL s) l),[[.sl tI s]],[]⟩) (by kernel_rfl) (by kernel_rfl) (by kernel_rfl) (by
    rintro ⟨l,⟨⟩,s,⟨⟩⟩ hp
    refine m_of hm (own:=true) (by kernel_rfl) (by kernel_rfl) (by kernel_rfl) (T_ixL l s) ⟨K_ixLL,trivial⟩ ?_
    refine ⟨⟨rfl,by omega,by omega,hp⟩,fun h => ?_,fun h => ?_⟩
    · simp only [Int.toNat_zero,List.drop_zero] at h
      have e:ixR (badL s) l 0 = ixS (badL s) l:=by
        unfold ixS ixR
        rw [if_pos h]
        simp only [Int.toNat_zero,List.drop_zero,Int.zero_add]
      exact congrArg (fun k:Int => (⟨.int .i64 k,[[.sl tI s]],[]⟩ : MOut)) e
    · simp only [Int.toNat_zero,List.drop_zero] at h
      have e : -1 = ixS (badL s) l:=by
        unfold ixS
        rw [if_neg (by simp only [h]; decide)]
      exact congrArg (fun k:Int => (⟨.int .i64 k,[[.sl tI s]],[]⟩ : MOut)) e)
def L_ixLC:Lay:={ slots:=[(0,.val (.sl tI)),(1,.clo 30 [(1,0)])],boxes:=[(1,[.val tIs])] }
theorem T_ixLC (l:List Int) (s:List Int):mTree (P:=P) [c_ixL.gc] (lpOf []) Try.f29 L_ixLC true (l,(),s,()) =
  Tree.need ((l.length:Int) < (2:Int) ^ (62:Nat)) (.leaf { res:=SV.bool (decide (ixS (badL s) l ≥ (0:Int))),boxes:=[[SV.sl tI s]] }):=by kernel_rfl
def c_ixLC:MC P:=MC.of (α:=List Int × Unit × List Int × Unit) 29 L_ixLC (fun x => x) (fun x => x) (fun _ => rfl)
  (fun (l,_,s,_) => some ((l.length:Int) < 2 ^ 62))
  (fun (l,_,s,_) => ⟨.bool (l.any (badL s)),[[.sl tI s]],[]⟩) (by kernel_rfl) (by kernel_rfl) (by kernel_rfl) (by
    rintro ⟨l,⟨⟩,s,⟨⟩⟩ hp
    refine m_of hm (own:=true) (by kernel_rfl) (by kernel_rfl) (by kernel_rfl) (T_ixLC l s) trivial ?_
    exact ⟨hp,congrArg (fun k:Bool => (⟨.bool k,[[.sl tI s]],[]⟩ : MOut)) (ixS_ge (badL s) l)⟩)
def eqV (v x:Int):Bool:=v == x
def L_idx0:Lay:={ slots:=[(0,.val tIs),(1,.val tI),(7,.val tI),(8,.val tI)] }
def L_idx0_0:Lay:={ slots:=[(4,.val tI)] }
def L_idx0_1:Lay:={ slots:=[] }
def X_idx0:Exit → St → Option Lay
  | .ret,_ => some L_idx0_0
  | .exit 0,_ => some L_idx0_1
  | _,_ => none
abbrev C_idx0:Code:=loopC (bodyOf Try.f55) 0
theorem B_idx0 (l:List Int) (v n i:Int):loopBodyA (P:=P) [] (lpOf []) [] 19 noU (inner C_idx0) L_idx0 X_idx0 (α:=List Int × Int × Int × Int × Unit) (fun x => x) (fun x => x) (l,v,n,i,()) =
  Tree.cond (decide (i < n)) (.need ((0:Int) ≤ i ∧ i < (l.length:Int)) (.cond (v == List.getD l (Int.toNat i) (0:Int)) (.leaf (Sum.inr (Exit.ret,Lay.st L_idx0_0 noU (i,())))) (.leaf (Sum.inl (l,v,n,IntKind.i64.wrap (i + (1:Int)),()))))) (.leaf (Sum.inr (Exit.exit (0:Nat),Lay.st L_idx0_1 noU ()))):=by kernel_rfl
def inv_idx0:List Int × Int × Int × Int × Unit → Prop:=fun (l,v,n,i,()) => n = l.length ∧ 0 ≤ i ∧ i ≤ n ∧ (l.length:Int) < 2 ^ 62
def O_idx0:List Int × Int × Int × Int × Unit → Tree (Exit × St):=fun (l,v,n,i,()) => .cond ((l.drop i.toNat).any (eqV v)) (.leaf (.ret,L_idx0_0.st noU ((ixR (eqV v) l i),()))) (.leaf (.exit 0,L_idx0_1.st noU ()))
def R_idx0:LRun:=runOf 19 L_idx0 (fun x => x) (inv_idx0) (O_idx0)
theorem K_idx0:LoopOk P [] 19 none noU C_idx0 (R_idx0):=by
  refine loop_of hm (cx:=[]) [] (xl:=X_idx0) (α:=List Int × Int × Int × Int × Unit) (fun x => x) (fun (l,v,n,i,()) => (n - i).toNat) (fun _ => rfl) (by kernel_rfl) (by kernel_rfl) ?_ (by kernel_rfl) trivial ?_
  · intro e S L' h
    unfold X_idx0 at h
    split at h <;> first | (cases h; done) | (cases h; kernel_rfl) | (rcases bif_some h with h | h <;> cases h <;> kernel_rfl)
  · rintro ⟨l,v,n,i,⟨⟩⟩ hinv Q hQ
    refine hold_of_eq (B_idx0 l v n i) ?_
    obtain ⟨rfl,h0,h1,h2⟩:=hinv
    rw [W_id (n:=i + 1) (by omega) (by omega)]
    unfold O_idx0 at hQ
    dsimp only at hQ
    refine ⟨fun hi => ?_,fun hi => ?_⟩
    · have hi:=of_decide_eq_true hi
      have hm:((l.length:Int) - (i + 1)).toNat < ((l.length:Int) - i).toNat:=by omega
      obtain ⟨e1,e2,e3⟩:=ix_step (p:=eqV v) (0:Int) h0 hi
      rw [e1] at hQ
      refine ⟨⟨h0,hi⟩,fun hp => ?_,fun hp => ?_⟩
      · replace hp:eqV v (l.getD i.toNat 0) = true:=hp
        rw [hp,Bool.true_or,e2 hp] at hQ
        exact hQ.1 rfl
      · replace hp:eqV v (l.getD i.toNat 0) = false:=hp
        rw [hp,Bool.false_or,e3 hp] at hQ
        exact ⟨⟨⟨rfl,by omega,by omega,h2⟩,hm⟩,hQ⟩
    · have hi:=of_decide_eq_false hi
      rw [drop_end hi] at hQ
      exact hQ.2 rfl
theorem T_Index (l:List Int) (v:Int):fnTree (P:=P) [] (lpOf [(0,R_idx0)]) Try.f55 (encL 0 [.val tIs,.val tI] (l,v,())) =
  Tree.need (inv_idx0 (l,v,(l.length:Int),(0:Int),())) (.cond (List.any (List.drop (Int.toNat (0:Int)) l) (eqV v)) (.leaf (SV.int IntKind.i64 (ixR (eqV v) l (0:Int)))) (.leaf (SV.int IntKind.i64 (-1:Int)))):=by kernel_rfl
def c_Index:PC P:=PC.of (α:=List Int × Int × Unit) 55 [.val tIs,.val tI] (fun x => x) (fun x => x) (fun _ => rfl)
  (fun x => some ((x.1.length:Int) < 2 ^ 62))
  (fun x => .int .i64 (ixS (eqV x.2.1) x.1)) (by kernel_rfl) (by
    rintro ⟨l,v,⟨⟩⟩ hp
    refine fn_of hm (by kernel_rfl) (by kernel_rfl) (T_Index l v) ⟨K_idx0,trivial⟩ ?_
    try dsimp only at hp
    try dsimp only
    have hp' : (l.length:Int) < 2 ^ 62:=hp
    refine ⟨⟨rfl,by decide,by omega,hp'⟩,fun h => ?_,fun h => ?_⟩
    · simp only [Int.toNat_zero,List.drop_zero] at h
      have e:ixR (eqV v) l 0 = ixS (eqV v) l:=by
        unfold ixS ixR
        rw [if_pos h]
        simp only [Int.toNat_zero,List.drop_zero,Int.zero_add]
      exact congrArg (SV.int .i64) e
    · simp only [Int.toNat_zero,List.drop_zero] at h
      have e : -1 = ixS (eqV v) l:=by
        unfold ixS
        rw [if_neg (by simp only [h]; decide)]
      exact congrArg (SV.int .i64) e)
theorem T_Contains (l:List Int) (v:Int):fnTree (P:=P) [c_Index.gc] (lpOf []) Try.f31 (encL 0 [.val tIs,.val tI] (l,v,())) =
  Tree.need ((l.length:Int) < (2:Int) ^ (62:Nat)) (.leaf (SV.bool (decide (ixS (eqV v) l ≥ (0:Int))))):=by kernel_rfl
def c_Contains:PC P:=PC.of (α:=List Int × Int × Unit) 31 [.val tIs,.val tI] (fun x => x) (fun x => x) (fun _ => rfl)
  (fun x => some ((x.1.length:Int) < 2 ^ 62))
  (fun x => .bool (x.1.any (eqV x.2.1))) (by kernel_rfl) (by
    rintro ⟨l,v,⟨⟩⟩ hp
    refine fn_of hm (by kernel_rfl) (by kernel_rfl) (T_Contains l v) trivial ?_
    try dsimp only at hp
    try dsimp only
    have hp' : (l.length:Int) < 2 ^ 62:=hp
    exact ⟨hp',congrArg SV.bool (ixS_ge (eqV v) l)⟩)
def appS (lost:List Int):List Int → List Int → Int → List Int
  | p :: s,x :: m,i => (if lost.any (eqV i) = true then p else IntKind.i64.wrap (p + x)) :: appS lost s m (i + 1)
  | _,_,_ => []
theorem appS_len (lost:List Int):∀ {s m:List Int} (i:Int),s.length = m.length → (appS lost s m i).length = s.length
  | [],[],i,_ => rfl
  | [],_ :: _,i,h => by simp at h
  | _ :: _,[],i,h => by simp at h
  | p :: s,x :: m,i,h => by rw [appS,List.length_cons,List.length_cons,appS_len lost (i + 1) (by simpa using h)]
def appF (lost r m:List Int) (i:Int):List Int:=r.take i.toNat ++ appS lost (r.drop i.toNat) (m.drop i.toNat) i
theorem appF_end {lost r m:List Int} {i:Int} (h:¬ i < r.length):appF lost r m i = r:=by
  unfold appF
  rw [drop_end h,List.take_of_length_le (by omega)]
  cases List.drop i.toNat m <;> simp [appS]
theorem appF_step {lost r m:List Int} {i v:Int} (h0:0 ≤ i) (h:i < r.length) (h2:i < m.length) (hv:v = if lost.any (eqV i) = true then r.getD i.toNat 0 else IntKind.i64.wrap (r.getD i.toNat 0 + m.getD i.toNat 0)) :
    appF lost (r.set i.toNat v) m (i + 1) = appF lost r m i:=by
  have h1:i.toNat < r.length:=by omega
  unfold appF
  rw [drop_step (0:Int) h0 h,drop_step (0:Int) h0 h2,appS,← hv,show (i + 1).toNat = i.toNat + 1 by omega,List.take_add_one,List.take_set_of_le (Nat.le_refl _),List.getElem?_set_self h1,Option.toList_some,List.append_assoc,List.drop_set_of_lt (by omega)]
  rfl
theorem set_self {r:List Int} {i:Nat}:r.set i (r.getD i 0) = r:=by
  apply List.ext_getElem?
  intro j
  rw [List.getElem?_set]
  split
  · rename_i e
    subst e
    split
    · rename_i h
      rw [List.getD_eq_getElem?_getD,List.getElem?_eq_getElem h]; rfl
    · rename_i h
      rw [List.getElem?_eq_none (by omega)]
  · rfl
def stepS (r:Rig) (s m lost:List Int):List Int × Int :=
  if stateS r s ≠ 0 then ([],stateS r s) else if moveS r m = false then ([],3) else if (allowS r s m).1 = false then ([],12)
  else if lost.any (badL s) = true then ([],7) else (appS lost s m 0,0)
def L_stp0:Lay:={ slots:=[(2,.val tIs),(3,.val tIs),(13,.row 3 tI),(44,.val tI),(45,.val tI)] }
def L_stp0_0:Lay:={ slots:=[(13,.row 3 tI)] }
def X_stp0:Exit → St → Option Lay
  | .exit 0,_ => some L_stp0_0
  | _,_ => none
abbrev C_stp0:Code:=loopC (bodyOf Try.f12) 0
theorem B_stp0 (m lost r:List Int) (n i:Int):loopBodyA (P:=P) [c_Contains.gc] (lpOf []) [] 64 noU (inner C_stp0) L_stp0 X_stp0 (α:=List Int × List Int × List Int × Int × Int × Unit) (fun x => x) (fun x => x) (m,lost,r,n,i,()) =
  Tree.cond (decide (i < n)) (.need ((lost.length:Int) < (2:Int) ^ (62:Nat)) (.cond (!List.any lost (eqV i)) (.need ((0:Int) ≤ i ∧ i < (r.length:Int)) (.need (Int.toNat i < List.length r) (.need ((0:Int) ≤ i ∧ i < (m.length:Int)) (.need ((0:Int) ≤ i ∧ i < (r.length:Int)) (.need (Int.toNat i < List.length r) (.leaf (Sum.inl (m,lost,List.set r (Int.toNat i) (IntKind.i64.wrap (List.getD r (Int.toNat i) (0:Int) + List.getD m (Int.toNat i) (0:Int))),n,IntKind.i64.wrap (i + (1:Int)),())))))))) (.leaf (Sum.inl (m,lost,r,n,IntKind.i64.wrap (i + (1:Int)),()))))) (.leaf (Sum.inr (Exit.exit (0:Nat),Lay.st L_stp0_0 noU (r,())))):=by kernel_rfl
def inv_stp0:List Int × List Int × List Int × Int × Int × Unit → Prop:=fun (m,lost,r,n,i,()) => n = r.length ∧ 0 ≤ i ∧ i ≤ n ∧ r.length ≤ 4 ∧ m.length = r.length ∧ (lost.length:Int) < 2 ^ 62
def O_stp0:List Int × List Int × List Int × Int × Int × Unit → Tree (Exit × St):=fun (m,lost,r,n,i,()) => (.leaf (.exit 0,L_stp0_0.st noU ((appF lost r m i),())))
def R_stp0:LRun:=runOf 64 L_stp0 (fun x => x) (inv_stp0) (O_stp0)
theorem K_stp0:LoopOk P [] 64 none noU C_stp0 (R_stp0):=by
  refine loop_of hm (cx:=[c_Contains.gc]) [] (xl:=X_stp0) (α:=List Int × List Int × List Int × Int × Int × Unit) (fun x => x) (fun (m,lost,r,n,i,()) => (n - i).toNat) (fun _ => rfl) (by kernel_rfl) (by kernel_rfl) ?_ (by kernel_rfl) trivial ?_
  · intro e S L' h
    unfold X_stp0 at h
    split at h <;> first | (cases h; done) | (cases h; kernel_rfl) | (rcases bif_some h with h | h <;> cases h <;> kernel_rfl)
  · rintro ⟨m,lost,r,n,i,⟨⟩⟩ hinv Q hQ
    refine hold_of_eq (B_stp0 m lost r n i) ?_
    obtain ⟨rfl,h0,h1,h2,h3,h4⟩:=hinv
    rw [W_id (n:=i + 1) (by omega) (by omega)]
    have hQ' : Q (.exit 0,L_stp0_0.st noU (appF lost r m i,())):=hQ
    refine ⟨fun c1 => ?_,fun c1 => ?_⟩
    · have d1:=of_decide_eq_true c1
      have hm:((r.length:Int) - (i + 1)).toNat < ((r.length:Int) - i).toNat:=by omega
      have b1:i < m.length:=by omega
      have b2:i.toNat < r.length:=by omega
      refine ⟨h4,fun c2 => ⟨⟨h0,d1⟩,b2,⟨h0,b1⟩,⟨h0,d1⟩,b2,⟨⟨by rw [List.length_set],by omega,by omega,by rw [List.length_set]; exact h2,by rw [List.length_set]; exact h3,h4⟩,hm⟩,?_⟩,fun c2 => ⟨⟨⟨rfl,by omega,by omega,h2,h3,h4⟩,hm⟩,?_⟩⟩
      · have d2:¬ lost.any (eqV i) = true:=by simpa using c2
        rw [← appF_step (v:=IntKind.i64.wrap (r.getD i.toNat 0 + m.getD i.toNat 0)) h0 d1 b1 (by rw [if_neg d2])] at hQ'
        exact hQ'
      · have d2:lost.any (eqV i) = true:=by simpa using c2
        rw [← appF_step (v:=r.getD i.toNat 0) h0 d1 b1 (by rw [if_pos d2]),set_self] at hQ'
        exact hQ'
    · have d1:=of_decide_eq_false c1
      rw [appF_end d1] at hQ'
      exact hQ'
def L_Step:Lay:={ slots:=[(0,.agg (.pair tIs (.sl (.pair tI (.pair tI (.pair tI tV)))))),(1,.val tIs),(2,.val tIs),(3,.val tIs)] }
theorem T_Step (s0_0:List Int) (s0_1:List (Int × (Int × (Int × V)))) (s m lost:List Int):mTree (P:=P) [c_State.gc,c_move.gc,c_Allowed.gc,c_ixLC.gc] (lpOf [(0,R_stp0)]) Try.f12 L_Step true ((s0_0,s0_1),s,m,lost,()) =
  Tree.cond (stateS (s0_0,s0_1) s != (0:Int)) (.leaf { res:=SV.tup [SV.nils,SV.int IntKind.i64 (stateS (s0_0,s0_1) s)],boxes:=[] }) (.need ((m.length:Int) < (2:Int) ^ (62:Nat)) (.cond (!moveS (s0_0,s0_1) m) (.leaf { res:=SV.tup [SV.nils,SV.int IntKind.i64 (3:Int)],boxes:=[] }) (.need ((m.length:Int) < (2:Int) ^ (62:Nat)) (.cond (!(allowS (s0_0,s0_1) s m).fst) (.leaf { res:=SV.tup [SV.nils,SV.int IntKind.i64 (12:Int)],boxes:=[] }) (.need ((lost.length:Int) < (2:Int) ^ (62:Nat)) (.cond (List.any lost (badL s)) (.leaf { res:=SV.tup [SV.nils,SV.int IntKind.i64 (7:Int)],boxes:=[] }) (.need ((0:Int) ≤ (s.length:Int) ∧ (s.length:Int) = (s.length:Int) ∧ (s.length:Int) ≤ (70368744177664:Int) ∧ (↑(8:Nat):Int) * (s.length:Int) ≤ (140737488355328:Int)) (.need ((0:Nat) < List.length (List.replicate (Int.toNat (s.length:Int)) (0:Int)) ∧ List.length s = List.length (List.replicate (Int.toNat (s.length:Int)) (0:Int))) (.need (inv_stp0 (m,lost,s,(s.length:Int),(0:Int),())) (.leaf { res:=SV.tup [SV.own (nat_lit 100),SV.int IntKind.i64 (0:Int)],boxes:=[],news:=[Ob.row (3:TypeId) tI (appF lost s m (0:Int))] })))))))))):=by kernel_rfl
def c_Step:XC P:=XC.of (α:=(List Int × List (Int × (Int × (Int × V)))) × List Int × List Int × List Int × Unit) 12 L_Step (fun x => x) (fun x => x) (fun _ => rfl)
  (fun x => some ((x.2.2.1.length:Int) < 2 ^ 62 ∧ (x.2.2.2.1.length:Int) < 2 ^ 62))
  (fun x => ⟨.tup [.own 100,.int .i64 (stepS x.1 x.2.1 x.2.2.1 x.2.2.2.1).2],[],[.row 3 tI (stepS x.1 x.2.1 x.2.2.1 x.2.2.2.1).1]⟩) (by kernel_rfl) (by kernel_rfl) (by
    rintro ⟨⟨s0_0,s0_1⟩,s,m,lost,⟨⟩⟩ hp
    refine m_nil hm (own:=true) (by kernel_rfl) (by kernel_rfl) (by kernel_rfl) (T_Step s0_0 s0_1 s m lost) ⟨K_stp0,trivial⟩ (by kernel_rfl) (by kernel_rfl) ?_
    try dsimp only at hp
    try dsimp only
    obtain ⟨p1,p2⟩ : (m.length:Int) < 2 ^ 62 ∧ (lost.length:Int) < 2 ^ 62:=hp
    have bad:∀ e:Int,stepS (s0_0,s0_1) s m lost = ([],e) → (fun q:MOut => q = ⟨.tup [.own 100,.int .i64 (stepS (s0_0,s0_1) s m lost).2],[],[.row 3 tI (stepS (s0_0,s0_1) s m lost).1]⟩ ∨ (q.boxes = [] ∧ q.news = [] ∧ (stepS (s0_0,s0_1) s m lost).1 = [] ∧ NilS q.res (.tup [.own 100,.int .i64 (stepS (s0_0,s0_1) s m lost).2]))) ⟨.tup [.nils,.int .i64 e],[],[]⟩:=fun e h => .inr ⟨rfl,rfl,by rw [h],by rw [h]; simp [NilS,NilL,newBase,isData]⟩
    refine ⟨fun c1 => ?_,fun c1 => ⟨p1,fun c2 => ?_,fun c2 => ⟨p1,fun c3 => ?_,fun c3 => ⟨p2,fun c4 => ?_,fun c4 => ?_⟩⟩⟩⟩
    · have d1:stateS (s0_0,s0_1) s ≠ 0:=by simpa using c1
      exact bad _ (by unfold stepS; rw [if_pos d1])
    all_goals
      have d1:stateS (s0_0,s0_1) s = 0:=by simpa using c1
    · have d2:moveS (s0_0,s0_1) m = false:=by simpa using c2
      exact bad _ (by unfold stepS; rw [if_neg (by rw [d1]; simp),if_pos d2])
    all_goals
      have d2:moveS (s0_0,s0_1) m = true:=by simpa using c2
    · have d3:(allowS (s0_0,s0_1) s m).1 = false:=by simpa using c3
      exact bad _ (by unfold stepS; rw [if_neg (by rw [d1]; simp),if_neg (by rw [d2]; simp),if_pos d3])
    all_goals
      have d3:(allowS (s0_0,s0_1) s m).1 = true:=by simpa using c3
    · have d4:lost.any (badL s) = true:=c4
      exact bad _ (by unfold stepS; rw [if_neg (by rw [d1]; simp),if_neg (by rw [d2]; simp),if_neg (by rw [d3]; simp),if_pos d4])
    · have d4:lost.any (badL s) = false:=c4
      have hs:=stOk_of d1
      have l2:=hs.l2
      have l4:=hs.l4
      have sl:=hs.sl
      have ml:=moveS_len d2
      dsimp only at l2 l4 sl ml
      have e:stepS (s0_0,s0_1) s m lost = (appS lost s m 0,0):=by unfold stepS; rw [if_neg (by rw [d1]; simp),if_neg (by rw [d2]; simp),if_neg (by rw [d3]; simp),if_neg (by rw [d4]; simp)]
      have ef:appF lost s m 0 = appS lost s m 0:=by unfold appF; simp
      rw [e,ef]
      exact ⟨⟨by omega,rfl,by omega,by omega⟩,⟨by rw [List.length_replicate,Int.toNat_natCast]; omega,by rw [List.length_replicate,Int.toNat_natCast]⟩,⟨rfl,by decide,by omega,by omega,by omega,p2⟩,.inl rfl⟩)
theorem appS_get (lost:List Int):∀ {s m:List Int} {k:Int} {i:Nat},i < s.length → i < m.length → (appS lost s m k).getD i 0 = if lost.any (eqV (k + i)) = true then s.getD i 0 else IntKind.i64.wrap (s.getD i 0 + m.getD i 0)
  | [],_,_,i,h,_ => by simp at h
  | _ :: _,[],_,i,_,h => by simp at h
  | p :: s,x :: m,k,0,_,_ => by rw [appS]; show (if _ then _ else _) = _; rw [show k + ((0:Nat):Int) = k by omega]; rfl
  | p :: s,x :: m,k,i + 1,h1,h2 => by
    rw [appS]
    show (appS lost s m (k + 1)).getD i 0 = _
    rw [appS_get lost (by simpa using h1) (by simpa using h2),show k + 1 + (i:Int) = k + ((i + 1:Nat):Int) by omega]
    rfl
theorem stepS_eq {r:Rig} {s m lost:List Int} (h:Sf r s) (hl:m.length = r.1.length) (hm:isM m) (ho:okM r.1 r.2 s m = true) (hb:∀ x ∈ lost,0 ≤ x ∧ x < r.1.length) :
    stepS r s m lost = (appS lost s m 0,0) ∧ (appS lost s m 0).length = r.1.length ∧ ∀ i:Nat,i < r.1.length → (appS lost s m 0).getD i 0 = if lost.any (eqV i) = true then s.getD i 0 else s.getD i 0 + m.getD i 0:=by
  have sl:=h.vs.sl
  refine ⟨?_,by rw [appS_len lost 0 (by omega),sl],fun i hi => ?_⟩
  · unfold stepS
    have hbad:lost.any (badL s) = false:=by
      cases e:lost.any (badL s) with
      | false => rfl
      | true =>
        rw [List.any_eq_true] at e
        obtain ⟨x,hx,hx2⟩:=e
        have:=hb x hx
        have l4:=(checkS_ok h.ck).2.1
        unfold badL wi at hx2
        rw [W_id (by omega) (by omega),decide_eq_true (by omega),decide_eq_true (by omega)] at hx2
        cases hx2
    rw [h.state,if_neg (by simp),moveS_of hl hm,if_neg (by simp),allowS_eq h.state hl hm ho,if_neg (by simp),hbad,if_neg (by simp)]
  · rw [appS_get lost (by omega) (by omega),Int.zero_add,addW h.pb h.vs hm hi]
end
end Go.MR
