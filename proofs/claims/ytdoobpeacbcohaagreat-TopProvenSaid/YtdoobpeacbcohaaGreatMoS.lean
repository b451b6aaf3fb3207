/- Entries at a site of which the lists are rows of its own: operations and the command. -/
import Derived.Test.YtdoobpeacbcohaaGreatMoR
namespace Go.MB
open Go Go.Sx Go.Proofs
set_option linter.unusedVariables false
set_option linter.unusedSimpArgs false
noncomputable section
theorem bneT {a b:Int} (h:(a != b) = true):a ≠ b:=by simpa using h
def opP (op:Int) (p:Pm):Bool:=p.1 == op
def pIx (l:List Pm) (op:Int):Int:=ixS (opP op) l
theorem ixS_ltL {α:Type} {p:α → Bool} {l:List α}:ixS p l < l.length:=by
  unfold ixS
  split
  · rename_i h
    have:=List.findIdx_lt_length_of_exists (List.any_eq_true.1 h)
    omega
  · omega
def gPm (l:List Pm) (i:Int):Pm:=l.getD i.toNat (0,0,0,false)
def L_prm1:Lay:={ slots:=[(0,.agg (.pair tI (.pair tI (.pair tI .bool)))),(1,.ptr 1 0)],boxes:=[(1,[.val tI])] }
theorem T_prm1 (p_0 p_1 p_2:Int) (p_3:Bool) (op:Int):mTree (P:=P) [] (lpOf []) Tryz.f110 L_prm1 true ((p_0,(p_1,(p_2,p_3))),(),op,()) =
  Tree.leaf { res:=SV.bool (p_0 == op),boxes:=[[SV.int IntKind.i64 op]] }:=by kernel_rfl
def c_prm1:MC P:=MC.of (α:=(Int × (Int × (Int × Bool))) × Unit × Int × Unit) 110 L_prm1 (fun x => x) (fun x => x) (fun _ => rfl)
  (fun _ => none)
  (fun x => ⟨.bool (opP x.2.2.1 x.1),[[.int .i64 x.2.2.1]],[]⟩) (by kernel_rfl) (by kernel_rfl) (by kernel_rfl) (by
    rintro ⟨⟨p_0,⟨p_1,⟨p_2,p_3⟩⟩⟩,⟨⟩,op,⟨⟩⟩ hp
    refine m_of hm (own:=true) (by kernel_rfl) (by kernel_rfl) (by kernel_rfl) (T_prm1 p_0 p_1 p_2 p_3 op) trivial ?_
    exact rfl)
def L_ixPmL:Lay:={ slots:=[(0,.rowk 51 71 tPm),(1,.clo 110 [(2,0)]),(7,.val tI),(8,.val tI)],boxes:=[(2,[.val tI])] }
def L_ixPmL_0:Lay:={ slots:=[(0,.rowk 51 71 tPm)],boxes:=[(2,[.val tI])] }
def L_ixPmL_1:Lay:={ slots:=[(0,.rowk 51 71 tPm),(4,.val tI)],boxes:=[(2,[.val tI])] }
def X_ixPmL:Exit → St → Option Lay
  | .exit 0,_ => some L_ixPmL_0
  | .ret,_ => some L_ixPmL_1
  | _,_ => none
abbrev C_ixPmL:Code:=loopC (bodyOf Tryz.f44) 0
theorem B_ixPmL (l:List Pm) (n i op:Int):loopBodyA (P:=P) [c_prm1.gc] (lpOf []) [] 19 (usd noU [2,51]) (inner C_ixPmL) L_ixPmL X_ixPmL (α:=List Pm × Unit × Int × Int × Int × Unit) (fun x => x) (fun x => x) (l,(),n,i,op,()) =
  Tree.cond (decide (i < n)) (.need ((0:Int) ≤ i ∧ i < (l.length:Int)) (.need (Int.toNat i < List.length l) (.cond (opP op (List.getD l (Int.toNat i) ((0:Int),(0:Int),(0:Int),false))) (.leaf (Sum.inr (Exit.ret,Lay.st L_ixPmL_1 (usd noU [(2:Nat),(51:Nat)]) (l,i,op,())))) (.leaf (Sum.inl (l,(),n,IntKind.i64.wrap (i + (1:Int)),op,())))))) (.leaf (Sum.inr (Exit.exit (0:Nat),Lay.st L_ixPmL_0 (usd noU [(2:Nat),(51:Nat)]) (l,op,())))):=by kernel_rfl
def inv_ixPmL:List Pm × Unit × Int × Int × Int × Unit → Prop:=fun (l,_,n,i,op,_) => n = l.length ∧ 0 ≤ i ∧ i ≤ n ∧ (l.length:Int) < 2 ^ 62
def O_ixPmL:List Pm × Unit × Int × Int × Int × Unit → Tree (Exit × St):=fun (l,_,n,i,op,_) => .cond ((l.drop i.toNat).any (opP op)) (.leaf (.ret,L_ixPmL_1.st (usd noU [2,51]) (l,ixR (opP op) l i,op,()))) (.leaf (.exit 0,L_ixPmL_0.st (usd noU [2,51]) (l,op,())))
def R_ixPmL:LRun:=runOf 19 L_ixPmL (fun x => x) (inv_ixPmL) (O_ixPmL)
theorem K_ixPmL:LoopOk P [] 19 none (usd noU [2,51]) C_ixPmL (R_ixPmL):=by
  refine loop_of hm (cx:=[c_prm1.gc]) [] (xl:=X_ixPmL) (α:=List Pm × Unit × Int × Int × Int × Unit) (fun x => x) (fun (l,_,n,i,op,_) => (n - i).toNat) (fun _ => rfl) (by kernel_rfl) (by kernel_rfl) ?_ (by kernel_rfl) trivial ?_
  · intro e S L' h
    unfold X_ixPmL at h
    split at h <;> first | (cases h; done) | (cases h; kernel_rfl) | (rcases bif_some h with h | h <;> cases h <;> kernel_rfl)
  · rintro ⟨l,⟨⟩,n,i,op,⟨⟩⟩ hinv Q hQ
    refine hold_of_eq (B_ixPmL l n i op) ?_
    obtain ⟨rfl,h0,h1,h2⟩:=hinv
    rw [W_id (n:=i + 1) (by omega) (by omega)]
    unfold O_ixPmL at hQ
    dsimp only at hQ
    refine ⟨fun hi => ?_,fun hi => ?_⟩
    · simp only [decide_eq_true_eq] at hi
      have hm:((l.length:Int) - (i + 1)).toNat < ((l.length:Int) - i).toNat:=by omega
      obtain ⟨e1,e2,e3⟩:=ix_step (p:=opP op) ((0,0,0,false):Pm) h0 hi
      rw [e1] at hQ
      refine ⟨⟨h0,hi⟩,⟨by omega,⟨fun hp => ?_,fun hp => ?_⟩⟩⟩
      · replace hp:opP op (l.getD i.toNat ((0,0,0,false):Pm)) = true:=hp
        rw [hp,Bool.true_or,e2 hp] at hQ
        exact hQ.1 rfl
      · replace hp:opP op (l.getD i.toNat ((0,0,0,false):Pm)) = false:=hp
        rw [hp,Bool.false_or,e3 hp] at hQ
        exact ⟨⟨⟨rfl,by omega,by omega,h2⟩,hm⟩,hQ⟩
    · simp only [decide_eq_false_iff_not] at hi
      rw [drop_end hi] at hQ
      exact hQ.2 rfl
def L_ixPm:Lay:={ slots:=[(0,.rowk 51 71 tPm),(1,.clo 110 [(2,0)])],boxes:=[(2,[.val tI])] }
theorem T_ixPm (l:List Pm) (op:Int):mTree (P:=P) [] (lpOf [(0,R_ixPmL)]) Tryz.f44 L_ixPm true (l,(),op,()) =
  Tree.need (inv_ixPmL (l,(),(l.length:Int),(0:Int),op,())) (.cond (List.any (List.drop (Int.toNat (0:Int)) l) (opP op)) (.leaf { res:=SV.int IntKind.i64 (ixR (opP op) l (0:Int)),boxes:=[[SV.int IntKind.i64 op]],news:=[Ob.row (71:TypeId) tPm l] ++ [] }) (.leaf { res:=SV.int IntKind.i64 (-1:Int),boxes:=[[SV.int IntKind.i64 op]],news:=[Ob.row (71:TypeId) tPm l] ++ [] })):=by kernel_rfl
def c_ixPm:MC P:=MC.of (α:=List Pm × Unit × Int × Unit) 44 L_ixPm (fun x => x) (fun x => x) (fun _ => rfl)
  (fun (l,_,op,_) => some ((l.length:Int) < 2 ^ 62))
  (fun (l,_,op,_) => ⟨.int .i64 (pIx l op),[[.int .i64 op]],[.row 71 tPm l]⟩) (by kernel_rfl) (by kernel_rfl) (by kernel_rfl) (by
    rintro ⟨l,⟨⟩,op,⟨⟩⟩ hp
    refine m_of hm (own:=true) (by kernel_rfl) (by kernel_rfl) (by kernel_rfl) (T_ixPm l op) ⟨K_ixPmL,trivial⟩ ?_
    refine ⟨⟨rfl,by omega,by omega,hp⟩,fun h => ?_,fun h => ?_⟩
    · simp only [Int.toNat_zero,List.drop_zero] at h
      have e:ixR (opP op) l 0 = pIx l op:=by
        unfold pIx ixS ixR
        rw [if_pos h]
        simp only [Int.toNat_zero,List.drop_zero,Int.zero_add]
      exact congrArg (fun k:Int => (⟨.int .i64 k,[[.int .i64 op]],[.row 71 tPm l]⟩ : MOut)) e
    · simp only [Int.toNat_zero,List.drop_zero] at h
      have e : -1 = pIx l op:=by
        unfold pIx ixS
        rw [if_neg (by simp only [h]; decide)]
      exact congrArg (fun k:Int => (⟨.int .i64 k,[[.int .i64 op]],[.row 71 tPm l]⟩ : MOut)) e)
def L_prmA:Lay:={ slots:=[(0,.ptr 1 0),(1,.val tI)],boxes:=[(1,siteL)] }
theorem T_prmA (op:Int) (x0 x1 x2 x3 x4:Int) (x5:List E4) (x6:List (List Int)) (x7:Int) (x8:List Pm) (x9:Int):mTree (P:=P) [c_ixPm.gc] (lpOf []) Tryz.f104 L_prmA true ((),op,x0,x1,x2,x3,x4,x5,x6,x7,x8,x9,()) =
  Tree.need ((x8.length:Int) < (2:Int) ^ (62:Nat)) (.cond (decide (pIx x8 op < (0:Int))) (.leaf { res:=SV.nilp,boxes:=[[SV.int IntKind.i64 x0,SV.int IntKind.i64 x1,SV.int IntKind.i64 x2,SV.int IntKind.i64 x3,SV.int IntKind.i64 x4,SV.own (50:Nat),SV.sl tIs x6,SV.int IntKind.i64 x7,SV.own (51:Nat),SV.int IntKind.i64 x9]],news:=[Ob.row (26:TypeId) tEl x5,Ob.row (71:TypeId) tPm x8] ++ [] }) (.need ((0:Int) ≤ pIx x8 op ∧ pIx x8 op < (x8.length:Int)) (.leaf { res:=SV.oel (nat_lit 51) (nat_lit 4) (Int.toNat (pIx x8 op)) (0:Nat),boxes:=[[SV.int IntKind.i64 x0,SV.int IntKind.i64 x1,SV.int IntKind.i64 x2,SV.int IntKind.i64 x3,SV.int IntKind.i64 x4,SV.own (50:Nat),SV.sl tIs x6,SV.int IntKind.i64 x7,SV.own (51:Nat),SV.int IntKind.i64 x9]],news:=[Ob.row (26:TypeId) tEl x5,Ob.row (71:TypeId) tPm x8] ++ [] }))):=by kernel_rfl
def c_prmA:MC P:=MC.of (α:=Unit × Int × Int × Int × Int × Int × Int × List E4 × List (List Int) × Int × List Pm × Int × Unit) 104 L_prmA (fun x => x) (fun x => x) (fun _ => rfl)
  (fun (_,op,x0,x1,x2,x3,x4,x5,x6,x7,x8,x9,_) => some ((x8.length:Int) < 2 ^ 62 ∧ 0 ≤ pIx x8 op))
  (fun (_,op,x0,x1,x2,x3,x4,x5,x6,x7,x8,x9,_) => ⟨.oel 51 4 (pIx x8 op).toNat 0,[siteO (x0,x1,x2,x3,x4,(x5,x6,x7),x8,x9)],siteN (x0,x1,x2,x3,x4,(x5,x6,x7),x8,x9)⟩) (by kernel_rfl) (by kernel_rfl) (by kernel_rfl) (by
    rintro ⟨⟨⟩,op,x0,x1,x2,x3,x4,x5,x6,x7,x8,x9,⟨⟩⟩ hp
    refine m_of hm (own:=true) (by kernel_rfl) (by kernel_rfl) (by kernel_rfl) (T_prmA op x0 x1 x2 x3 x4 x5 x6 x7 x8 x9) trivial ?_
    obtain ⟨h1,h2⟩ : (x8.length:Int) < 2 ^ 62 ∧ 0 ≤ pIx x8 op:=hp
    have h3:pIx x8 op < x8.length:=ixS_ltL
    refine ⟨h1,fun c1 => ?_,fun c1 => ⟨⟨h2,h3⟩,rfl⟩⟩
    have:=of_decide_eq_true c1; omega)
def L_prmB:Lay:={ slots:=[(0,.ptr 1 0),(1,.val tI)],boxes:=[(1,siteL)] }
theorem T_prmB (op:Int) (x0 x1 x2 x3 x4:Int) (x5:List E4) (x6:List (List Int)) (x7:Int) (x8:List Pm) (x9:Int):mTree (P:=P) [c_ixPm.gc] (lpOf []) Tryz.f104 L_prmB true ((),op,x0,x1,x2,x3,x4,x5,x6,x7,x8,x9,()) =
  Tree.need ((x8.length:Int) < (2:Int) ^ (62:Nat)) (.cond (decide (pIx x8 op < (0:Int))) (.leaf { res:=SV.nilp,boxes:=[[SV.int IntKind.i64 x0,SV.int IntKind.i64 x1,SV.int IntKind.i64 x2,SV.int IntKind.i64 x3,SV.int IntKind.i64 x4,SV.own (50:Nat),SV.sl tIs x6,SV.int IntKind.i64 x7,SV.own (51:Nat),SV.int IntKind.i64 x9]],news:=[Ob.row (26:TypeId) tEl x5,Ob.row (71:TypeId) tPm x8] ++ [] }) (.need ((0:Int) ≤ pIx x8 op ∧ pIx x8 op < (x8.length:Int)) (.leaf { res:=SV.oel (nat_lit 51) (nat_lit 4) (Int.toNat (pIx x8 op)) (0:Nat),boxes:=[[SV.int IntKind.i64 x0,SV.int IntKind.i64 x1,SV.int IntKind.i64 x2,SV.int IntKind.i64 x3,SV.int IntKind.i64 x4,SV.own (50:Nat),SV.sl tIs x6,SV.int IntKind.i64 x7,SV.own (51:Nat),SV.int IntKind.i64 x9]],news:=[Ob.row (26:TypeId) tEl x5,Ob.row (71:TypeId) tPm x8] ++ [] }))):=by kernel_rfl
def c_prmB:MC P:=MC.of (α:=Unit × Int × Int × Int × Int × Int × Int × List E4 × List (List Int) × Int × List Pm × Int × Unit) 104 L_prmB (fun x => x) (fun x => x) (fun _ => rfl)
  (fun (_,op,x0,x1,x2,x3,x4,x5,x6,x7,x8,x9,_) => some ((x8.length:Int) < 2 ^ 62 ∧ ¬ 0 ≤ pIx x8 op))
  (fun (_,op,x0,x1,x2,x3,x4,x5,x6,x7,x8,x9,_) => ⟨.nilp,[siteO (x0,x1,x2,x3,x4,(x5,x6,x7),x8,x9)],siteN (x0,x1,x2,x3,x4,(x5,x6,x7),x8,x9)⟩) (by kernel_rfl) (by kernel_rfl) (by kernel_rfl) (by
    rintro ⟨⟨⟩,op,x0,x1,x2,x3,x4,x5,x6,x7,x8,x9,⟨⟩⟩ hp
    refine m_of hm (own:=true) (by kernel_rfl) (by kernel_rfl) (by kernel_rfl) (T_prmB op x0 x1 x2 x3 x4 x5 x6 x7 x8 x9) trivial ?_
    obtain ⟨h1,h2⟩ : (x8.length:Int) < 2 ^ 62 ∧ ¬ 0 ≤ pIx x8 op:=hp
    refine ⟨h1,fun c1 => rfl,fun c1 => ?_⟩
    have:=of_decide_eq_false c1; omega)
def sPrm (args:List SV) (H:Hp):Option Bool:=match args with
  | [.ptr k _,.int _ op] => match H k with
    | some (.box bs) => match Sh.ext H (.row 71 tPm) (bs.getD 8 .any) with
      | some l => some (decide (0 ≤ pIx l op))
      | none => none
    | _ => none
  | _ => none
def c_prm:GC P:=GC.split sPrm c_prmA.gc c_prmB.gc (by kernel_rfl)
def pmT (s:Site) (e:Entry):Pm:=gPm s.2.2.2.2.2.2.1 (pIx s.2.2.2.2.2.2.1 e.2.2.2.1)
def staE (s:Site) (e:Entry):Int:=if pIx s.2.2.2.2.2.2.1 e.2.2.2.1 < 0 then 7 else if (pmT s e).2.1 ≠ e.2.2.1 then 7 else if (pmT s e).2.2.2 = true then 9 else if e.1 > (pmT s e).2.2.1 then 13 else if holdsS s.2.2.2.2.2.1 e.1 s.2.2.2.2.1 = false then 15 else 0
def staL (s:Site) (e:Entry):List Pm:=if staE s e = 0 then s.2.2.2.2.2.2.1.set (pIx s.2.2.2.2.2.2.1 e.2.2.2.1).toNat ((pmT s e).1,(pmT s e).2.1,(pmT s e).2.2.1,true) else s.2.2.2.2.2.2.1
def stoE (s:Site) (e:Entry):Int:=if pIx s.2.2.2.2.2.2.1 e.2.2.2.1 < 0 then 7 else if (pmT s e).2.2.2 = false then 7 else if e.2.2.1 ≠ (pmT s e).2.1 ∧ e.2.2.1 ≠ s.2.2.1 then 10 else 0
def stoL (s:Site) (e:Entry):List Pm:=if stoE s e = 0 then s.2.2.2.2.2.2.1.set (pIx s.2.2.2.2.2.2.1 e.2.2.2.1).toNat ((pmT s e).1,(pmT s e).2.1,(pmT s e).2.2.1,false) else s.2.2.2.2.2.2.1
def setP (s:Site) (p:Int):Site:=(s.1,s.2.1,s.2.2.1,s.2.2.2.1,p,s.2.2.2.2.2.1,s.2.2.2.2.2.2.1,s.2.2.2.2.2.2.2)
def prsQ (s:Site) (e:Entry):Int:=if e.2.2.1 ≠ s.2.2.1 then 10 else if wi e.2.2.2.2.2 0 68719476736 = false then 2 else 0
def prsE (s:Site) (e:Entry):Int:=if prsQ s e ≠ 0 then prsQ s e else if keepS (setP s e.2.2.2.2.2) e.1 = false then 15 else 0
def prsN (s:Site) (e:Entry):Int:=if prsQ s e = 0 then e.2.2.2.2.2 else s.2.2.2.2.1
def L_start:Lay:={ slots:=[(0,.ptr 1 0),(1,.agg tEntry)],boxes:=[(1,siteL)] }
theorem T_start (e0 e1 e2 e3 e4 e5:Int) (x0 x1 x2 x3 x4:Int) (x5:List E4) (x6:List (List Int)) (x7:Int) (x8:List Pm) (x9:Int):mTree (P:=P) [c_prm,c_holdsX.gc] (lpOf []) Tryz.f88 L_start true ((),(e0,e1,e2,e3,e4,e5),x0,x1,x2,x3,x4,x5,x6,x7,x8,x9,()) =
  Tree.cond (decide ((0:Int) ≤ pIx x8 e3)) (.need ((x8.length:Int) < (2:Int) ^ (62:Nat) ∧ (0:Int) ≤ pIx x8 e3) (.cond false (.leaf { res:=SV.int IntKind.i64 (7:Int),boxes:=[[SV.int IntKind.i64 x0,SV.int IntKind.i64 x1,SV.int IntKind.i64 x2,SV.int IntKind.i64 x3,SV.int IntKind.i64 x4,SV.own (nat_lit 50),SV.sl tIs x6,SV.int IntKind.i64 x7,SV.own (nat_lit 51),SV.int IntKind.i64 x9]],news:=[Ob.row (26:TypeId) tEl x5,Ob.row (71:TypeId) tPm x8] ++ [] }) (.need (Int.toNat (pIx x8 e3) < List.length x8) (.cond ((List.getD x8 (Int.toNat (pIx x8 e3)) ((0:Int),(0:Int),(0:Int),false)).snd.fst != e2) (.leaf { res:=SV.int IntKind.i64 (7:Int),boxes:=[[SV.int IntKind.i64 x0,SV.int IntKind.i64 x1,SV.int IntKind.i64 x2,SV.int IntKind.i64 x3,SV.int IntKind.i64 x4,SV.own (nat_lit 50),SV.sl tIs x6,SV.int IntKind.i64 x7,SV.own (nat_lit 51),SV.int IntKind.i64 x9]],news:=[Ob.row (26:TypeId) tEl x5,Ob.row (71:TypeId) tPm x8] ++ [] }) (.need (Int.toNat (pIx x8 e3) < List.length x8) (.cond (List.getD x8 (Int.toNat (pIx x8 e3)) ((0:Int),(0:Int),(0:Int),false)).snd.snd.snd (.leaf { res:=SV.int IntKind.i64 (9:Int),boxes:=[[SV.int IntKind.i64 x0,SV.int IntKind.i64 x1,SV.int IntKind.i64 x2,SV.int IntKind.i64 x3,SV.int IntKind.i64 x4,SV.own (nat_lit 50),SV.sl tIs x6,SV.int IntKind.i64 x7,SV.own (nat_lit 51),SV.int IntKind.i64 x9]],news:=[Ob.row (26:TypeId) tEl x5,Ob.row (71:TypeId) tPm x8] ++ [] }) (.need (Int.toNat (pIx x8 e3) < List.length x8) (.cond (decide (e0 > (List.getD x8 (Int.toNat (pIx x8 e3)) ((0:Int),(0:Int),(0:Int),false)).snd.snd.fst)) (.leaf { res:=SV.int IntKind.i64 (13:Int),boxes:=[[SV.int IntKind.i64 x0,SV.int IntKind.i64 x1,SV.int IntKind.i64 x2,SV.int IntKind.i64 x3,SV.int IntKind.i64 x4,SV.own (nat_lit 50),SV.sl tIs x6,SV.int IntKind.i64 x7,SV.own (nat_lit 51),SV.int IntKind.i64 x9]],news:=[Ob.row (26:TypeId) tEl x5,Ob.row (71:TypeId) tPm x8] ++ [] }) (.need (houseE (x5,x6,x7) = (0:Int)) (.cond (!holdsS (x5,x6,x7) e0 x4) (.leaf { res:=SV.int IntKind.i64 (15:Int),boxes:=[[SV.int IntKind.i64 x0,SV.int IntKind.i64 x1,SV.int IntKind.i64 x2,SV.int IntKind.i64 x3,SV.int IntKind.i64 x4,SV.own (nat_lit 50),SV.sl tIs x6,SV.int IntKind.i64 x7,SV.own (nat_lit 51),SV.int IntKind.i64 x9]],news:=[Ob.row (26:TypeId) tEl x5,Ob.row (71:TypeId) tPm x8] ++ [] }) (.need (Int.toNat (pIx x8 e3) < List.length x8) (.leaf { res:=SV.int IntKind.i64 (0:Int),boxes:=[[SV.int IntKind.i64 x0,SV.int IntKind.i64 x1,SV.int IntKind.i64 x2,SV.int IntKind.i64 x3,SV.int IntKind.i64 x4,SV.own (nat_lit 50),SV.sl tIs x6,SV.int IntKind.i64 x7,SV.own (nat_lit 51),SV.int IntKind.i64 x9]],news:=[Ob.row (26:TypeId) tEl x5,Ob.row (71:TypeId) tPm (List.set x8 (Int.toNat (pIx x8 e3)) ((List.getD x8 (Int.toNat (pIx x8 e3)) ((0:Int),(0:Int),(0:Int),false)).fst,(List.getD x8 (Int.toNat (pIx x8 e3)) ((0:Int),(0:Int),(0:Int),false)).snd.fst,(List.getD x8 (Int.toNat (pIx x8 e3)) ((0:Int),(0:Int),(0:Int),false)).snd.snd.fst,true))] ++ [] })))))))))))) (.need ((x8.length:Int) < (2:Int) ^ (62:Nat) ∧ ¬(0:Int) ≤ pIx x8 e3) (.cond true (.leaf { res:=SV.int IntKind.i64 (7:Int),boxes:=[[SV.int IntKind.i64 x0,SV.int IntKind.i64 x1,SV.int IntKind.i64 x2,SV.int IntKind.i64 x3,SV.int IntKind.i64 x4,SV.own (nat_lit 50),SV.sl tIs x6,SV.int IntKind.i64 x7,SV.own (nat_lit 51),SV.int IntKind.i64 x9]],news:=[Ob.row (26:TypeId) tEl x5,Ob.row (71:TypeId) tPm x8] ++ [] }) (Tree.fail (1015:Nat)))):=by kernel_rfl
def c_start:MC P:=MC.of (α:=Unit × Entry × Int × Int × Int × Int × Int × List E4 × List (List Int) × Int × List Pm × Int × Unit) 88 L_start (fun x => x) (fun x => x) (fun _ => rfl)
  (fun (_,e,x0,x1,x2,x3,x4,x5,x6,x7,x8,x9,_) => some ((x8.length:Int) < 2 ^ 62 ∧ houseE (x5,x6,x7) = 0))
  (fun (_,e,x0,x1,x2,x3,x4,x5,x6,x7,x8,x9,_) => ⟨.int .i64 (staE (x0,x1,x2,x3,x4,(x5,x6,x7),x8,x9) e),[siteO (x0,x1,x2,x3,x4,(x5,x6,x7),staL (x0,x1,x2,x3,x4,(x5,x6,x7),x8,x9) e,x9)],siteN (x0,x1,x2,x3,x4,(x5,x6,x7),staL (x0,x1,x2,x3,x4,(x5,x6,x7),x8,x9) e,x9)⟩) (by kernel_rfl) (by kernel_rfl) (by kernel_rfl) (by
    rintro ⟨⟨⟩,⟨e0,e1,e2,e3,e4,e5⟩,x0,x1,x2,x3,x4,x5,x6,x7,x8,x9,⟨⟩⟩ hp
    refine m_of hm (own:=true) (by kernel_rfl) (by kernel_rfl) (by kernel_rfl) (T_start e0 e1 e2 e3 e4 e5 x0 x1 x2 x3 x4 x5 x6 x7 x8 x9) trivial ?_
    obtain ⟨p1,p2⟩ : (x8.length:Int) < 2 ^ 62 ∧ houseE (x5,x6,x7) = 0:=hp
    have fin:∀ (m:Int) (l:List Pm),staE (x0,x1,x2,x3,x4,(x5,x6,x7),x8,x9) (e0,e1,e2,e3,e4,e5) = m → staL (x0,x1,x2,x3,x4,(x5,x6,x7),x8,x9) (e0,e1,e2,e3,e4,e5) = l → (⟨.int .i64 m,[siteO (x0,x1,x2,x3,x4,(x5,x6,x7),l,x9)],siteN (x0,x1,x2,x3,x4,(x5,x6,x7),l,x9)⟩ : MOut) = ⟨.int .i64 (staE (x0,x1,x2,x3,x4,(x5,x6,x7),x8,x9) (e0,e1,e2,e3,e4,e5)),[siteO (x0,x1,x2,x3,x4,(x5,x6,x7),staL (x0,x1,x2,x3,x4,(x5,x6,x7),x8,x9) (e0,e1,e2,e3,e4,e5),x9)],siteN (x0,x1,x2,x3,x4,(x5,x6,x7),staL (x0,x1,x2,x3,x4,(x5,x6,x7),x8,x9) (e0,e1,e2,e3,e4,e5),x9)⟩:=fun m l h1 h2 => by rw [h1,h2]
    
    have bad:∀ n:Int,n ≠ 0 → staE (x0,x1,x2,x3,x4,(x5,x6,x7),x8,x9) (e0,e1,e2,e3,e4,e5) = n → (⟨.int .i64 n,[siteO (x0,x1,x2,x3,x4,(x5,x6,x7),x8,x9)],siteN (x0,x1,x2,x3,x4,(x5,x6,x7),x8,x9)⟩ : MOut) = _:=fun n h0 h => fin n x8 h (by unfold staL; rw [h,if_neg h0])
    have hlt:pIx x8 e3 < x8.length:=ixS_ltL
    refine ⟨fun c1 => ?_,fun c1 => ?_⟩
    · have d1:0 ≤ pIx x8 e3:=of_decide_eq_true c1
      have d2:(pIx x8 e3).toNat < x8.length:=by omega
      have f1:∀ n:Int,(if (gPm x8 (pIx x8 e3)).2.1 ≠ e2 then 7 else if (gPm x8 (pIx x8 e3)).2.2.2 = true then 9 else if e0 > (gPm x8 (pIx x8 e3)).2.2.1 then 13 else if holdsS (x5,x6,x7) e0 x4 = false then 15 else 0) = n → staE (x0,x1,x2,x3,x4,(x5,x6,x7),x8,x9) (e0,e1,e2,e3,e4,e5) = n:=fun n h => by unfold staE; rw [if_neg (show ¬ pIx x8 e3 < 0 by omega)]; exact h
      refine ⟨⟨p1,d1⟩,⟨fun c2 => (by cases c2),fun _ => ⟨d2,⟨fun c3 => bad 7 (by decide) (f1 _ ?_),fun c3 => ⟨d2,⟨fun c4 => bad 9 (by decide) (f1 _ ?_),fun c4 => ⟨d2,⟨fun c5 => bad 13 (by decide) (f1 _ ?_),fun c5 => ⟨p2,⟨fun c6 => bad 15 (by decide) (f1 _ ?_),fun c6 => ⟨d2,?_⟩⟩⟩⟩⟩⟩⟩⟩⟩⟩⟩
      · exact if_pos (bneT c3)
      all_goals have d3:(gPm x8 (pIx x8 e3)).2.1 = e2:=bneF c3
      · rw [if_neg (fun k => k d3)]; exact if_pos c4
      all_goals have d4:¬ (gPm x8 (pIx x8 e3)).2.2.2 = true:=fun k => by rw [show (gPm x8 (pIx x8 e3)).2.2.2 = false from c4] at k; cases k
      · rw [if_neg (fun k => k d3),if_neg d4]; exact if_pos (of_decide_eq_true c5)
      all_goals have d5:¬ e0 > (gPm x8 (pIx x8 e3)).2.2.1:=of_decide_eq_false c5
      · rw [if_neg (fun k => k d3),if_neg d4,if_neg d5]; exact if_pos (notT c6)
      · have d6:holdsS (x5,x6,x7) e0 x4 = true:=notF c6
        have e:=f1 0 (by rw [if_neg (fun k => k d3),if_neg d4,if_neg d5,if_neg (by rw [d6]; decide)])
        exact fin 0 _ e (by unfold staL; rw [if_pos e]; rfl)
    · have d1:¬ 0 ≤ pIx x8 e3:=of_decide_eq_false c1
      have e:staE (x0,x1,x2,x3,x4,(x5,x6,x7),x8,x9) (e0,e1,e2,e3,e4,e5) = 7:=by unfold staE; rw [if_pos (show pIx x8 e3 < 0 by omega)]
      exact ⟨⟨p1,d1⟩,⟨fun c7 => bad 7 (by decide) e,fun c7 => (by cases c7)⟩⟩)
def L_stop:Lay:={ slots:=[(0,.ptr 1 0),(1,.agg tEntry)],boxes:=[(1,siteL)] }
theorem T_stop (e0 e1 e2 e3 e4 e5:Int) (x0 x1 x2 x3 x4:Int) (x5:List E4) (x6:List (List Int)) (x7:Int) (x8:List Pm) (x9:Int):mTree (P:=P) [c_prm] (lpOf []) Tryz.f89 L_stop true ((),(e0,e1,e2,e3,e4,e5),x0,x1,x2,x3,x4,x5,x6,x7,x8,x9,()) =
  Tree.cond (decide ((0:Int) ≤ pIx x8 e3)) (.need ((x8.length:Int) < (2:Int) ^ (62:Nat) ∧ (0:Int) ≤ pIx x8 e3) (.cond false (.leaf { res:=SV.int IntKind.i64 (7:Int),boxes:=[[SV.int IntKind.i64 x0,SV.int IntKind.i64 x1,SV.int IntKind.i64 x2,SV.int IntKind.i64 x3,SV.int IntKind.i64 x4,SV.own (nat_lit 50),SV.sl tIs x6,SV.int IntKind.i64 x7,SV.own (nat_lit 51),SV.int IntKind.i64 x9]],news:=[Ob.row (26:TypeId) tEl x5,Ob.row (71:TypeId) tPm x8] ++ [] }) (.need (Int.toNat (pIx x8 e3) < List.length x8) (.cond (!(List.getD x8 (Int.toNat (pIx x8 e3)) ((0:Int),(0:Int),(0:Int),false)).snd.snd.snd) (.leaf { res:=SV.int IntKind.i64 (7:Int),boxes:=[[SV.int IntKind.i64 x0,SV.int IntKind.i64 x1,SV.int IntKind.i64 x2,SV.int IntKind.i64 x3,SV.int IntKind.i64 x4,SV.own (nat_lit 50),SV.sl tIs x6,SV.int IntKind.i64 x7,SV.own (nat_lit 51),SV.int IntKind.i64 x9]],news:=[Ob.row (26:TypeId) tEl x5,Ob.row (71:TypeId) tPm x8] ++ [] }) (.need (Int.toNat (pIx x8 e3) < List.length x8) (.cond (e2 != (List.getD x8 (Int.toNat (pIx x8 e3)) ((0:Int),(0:Int),(0:Int),false)).snd.fst) (.cond (e2 != x2) (.leaf { res:=SV.int IntKind.i64 (10:Int),boxes:=[[SV.int IntKind.i64 x0,SV.int IntKind.i64 x1,SV.int IntKind.i64 x2,SV.int IntKind.i64 x3,SV.int IntKind.i64 x4,SV.own (nat_lit 50),SV.sl tIs x6,SV.int IntKind.i64 x7,SV.own (nat_lit 51),SV.int IntKind.i64 x9]],news:=[Ob.row (26:TypeId) tEl x5,Ob.row (71:TypeId) tPm x8] ++ [] }) (.need (Int.toNat (pIx x8 e3) < List.length x8) (.leaf { res:=SV.int IntKind.i64 (0:Int),boxes:=[[SV.int IntKind.i64 x0,SV.int IntKind.i64 x1,SV.int IntKind.i64 x2,SV.int IntKind.i64 x3,SV.int IntKind.i64 x4,SV.own (nat_lit 50),SV.sl tIs x6,SV.int IntKind.i64 x7,SV.own (nat_lit 51),SV.int IntKind.i64 x9]],news:=[Ob.row (26:TypeId) tEl x5,Ob.row (71:TypeId) tPm (List.set x8 (Int.toNat (pIx x8 e3)) ((List.getD x8 (Int.toNat (pIx x8 e3)) ((0:Int),(0:Int),(0:Int),false)).fst,(List.getD x8 (Int.toNat (pIx x8 e3)) ((0:Int),(0:Int),(0:Int),false)).snd.fst,(List.getD x8 (Int.toNat (pIx x8 e3)) ((0:Int),(0:Int),(0:Int),false)).snd.snd.fst,false))] ++ [] }))) (.need (Int.toNat (pIx x8 e3) < List.length x8) (.leaf { res:=SV.int IntKind.i64 (0:Int),boxes:=[[SV.int IntKind.i64 x0,SV.int IntKind.i64 x1,SV.int IntKind.i64 x2,SV.int IntKind.i64 x3,SV.int IntKind.i64 x4,SV.own (nat_lit 50),SV.sl tIs x6,SV.int IntKind.i64 x7,SV.own (nat_lit 51),SV.int IntKind.i64 x9]],news:=[Ob.row (26:TypeId) tEl x5,Ob.row (71:TypeId) tPm (List.set x8 (Int.toNat (pIx x8 e3)) ((List.getD x8 (Int.toNat (pIx x8 e3)) ((0:Int),(0:Int),(0:Int),false)).fst,(List.getD x8 (Int.toNat (pIx x8 e3)) ((0:Int),(0:Int),(0:Int),false)).snd.fst,(List.getD x8 (Int.toNat (pIx x8 e3)) ((0:Int),(0:Int),(0:Int),false)).snd.snd.fst,false))] ++ [] })))))))) (.need ((x8.length:Int) < (2:Int) ^ (62:Nat) ∧ ¬(0:Int) ≤ pIx x8 e3) (.cond true (.leaf { res:=SV.int IntKind.i64 (7:Int),boxes:=[[SV.int IntKind.i64 x0,SV.int IntKind.i64 x1,SV.int IntKind.i64 x2,SV.int IntKind.i64 x3,SV.int IntKind.i64 x4,SV.own (nat_lit 50),SV.sl tIs x6,SV.int IntKind.i64 x7,SV.own (nat_lit 51),SV.int IntKind.i64 x9]],news:=[Ob.row (26:TypeId) tEl x5,Ob.row (71:TypeId) tPm x8] ++ [] }) (Tree.fail (1015:Nat)))):=by kernel_rfl
def c_stop:MC P:=MC.of (α:=Unit × Entry × Int × Int × Int × Int × Int × List E4 × List (List Int) × Int × List Pm × Int × Unit) 89 L_stop (fun x => x) (fun x => x) (fun _ => rfl)
  (fun (_,e,x0,x1,x2,x3,x4,x5,x6,x7,x8,x9,_) => some ((x8.length:Int) < 2 ^ 62))
  (fun (_,e,x0,x1,x2,x3,x4,x5,x6,x7,x8,x9,_) => ⟨.int .i64 (stoE (x0,x1,x2,x3,x4,(x5,x6,x7),x8,x9) e),[siteO (x0,x1,x2,x3,x4,(x5,x6,x7),stoL (x0,x1,x2,x3,x4,(x5,x6,x7),x8,x9) e,x9)],siteN (x0,x1,x2,x3,x4,(x5,x6,x7),stoL (x0,x1,x2,x3,x4,(x5,x6,x7),x8,x9) e,x9)⟩) (by kernel_rfl) (by kernel_rfl) (by kernel_rfl) (by
    rintro ⟨⟨⟩,⟨e0,e1,e2,e3,e4,e5⟩,x0,x1,x2,x3,x4,x5,x6,x7,x8,x9,⟨⟩⟩ hp
    refine m_of hm (own:=true) (by kernel_rfl) (by kernel_rfl) (by kernel_rfl) (T_stop e0 e1 e2 e3 e4 e5 x0 x1 x2 x3 x4 x5 x6 x7 x8 x9) trivial ?_
    have p1:(x8.length:Int) < 2 ^ 62:=hp
    have fin:∀ (m:Int) (l:List Pm),stoE (x0,x1,x2,x3,x4,(x5,x6,x7),x8,x9) (e0,e1,e2,e3,e4,e5) = m → stoL (x0,x1,x2,x3,x4,(x5,x6,x7),x8,x9) (e0,e1,e2,e3,e4,e5) = l → (⟨.int .i64 m,[siteO (x0,x1,x2,x3,x4,(x5,x6,x7),l,x9)],siteN (x0,x1,x2,x3,x4,(x5,x6,x7),l,x9)⟩ : MOut) = ⟨.int .i64 (stoE (x0,x1,x2,x3,x4,(x5,x6,x7),x8,x9) (e0,e1,e2,e3,e4,e5)),[siteO (x0,x1,x2,x3,x4,(x5,x6,x7),stoL (x0,x1,x2,x3,x4,(x5,x6,x7),x8,x9) (e0,e1,e2,e3,e4,e5),x9)],siteN (x0,x1,x2,x3,x4,(x5,x6,x7),stoL (x0,x1,x2,x3,x4,(x5,x6,x7),x8,x9) (e0,e1,e2,e3,e4,e5),x9)⟩:=fun m l h1 h2 => by rw [h1,h2]
    
    have bad:∀ n:Int,n ≠ 0 → stoE (x0,x1,x2,x3,x4,(x5,x6,x7),x8,x9) (e0,e1,e2,e3,e4,e5) = n → (⟨.int .i64 n,[siteO (x0,x1,x2,x3,x4,(x5,x6,x7),x8,x9)],siteN (x0,x1,x2,x3,x4,(x5,x6,x7),x8,x9)⟩ : MOut) = _:=fun n h0 h => fin n x8 h (by unfold stoL; rw [h,if_neg h0])
    have hlt:pIx x8 e3 < x8.length:=ixS_ltL
    refine ⟨fun c1 => ?_,fun c1 => ?_⟩
    · have d1:0 ≤ pIx x8 e3:=of_decide_eq_true c1
      have d2:(pIx x8 e3).toNat < x8.length:=by omega
      have f1:∀ n:Int,(if (gPm x8 (pIx x8 e3)).2.2.2 = false then 7 else if e2 ≠ (gPm x8 (pIx x8 e3)).2.1 ∧ e2 ≠ x2 then 10 else 0) = n → stoE (x0,x1,x2,x3,x4,(x5,x6,x7),x8,x9) (e0,e1,e2,e3,e4,e5) = n:=fun n h => by unfold stoE; rw [if_neg (show ¬ pIx x8 e3 < 0 by omega)]; exact h
      refine ⟨⟨p1,d1⟩,⟨fun c2 => (by cases c2),fun _ => ⟨d2,⟨fun c3 => bad 7 (by decide) (f1 _ ?_),fun c3 => ⟨d2,⟨fun c4 => ⟨fun c5 => bad 10 (by decide) (f1 _ ?_),fun c5 => ⟨d2,?_⟩⟩,fun c4 => ⟨d2,?_⟩⟩⟩⟩⟩⟩⟩
      · exact if_pos (notT c3)
      all_goals have d3:¬ (gPm x8 (pIx x8 e3)).2.2.2 = false:=fun k => by rw [show (gPm x8 (pIx x8 e3)).2.2.2 = true from notF c3] at k; cases k
      · rw [if_neg d3]; exact if_pos ⟨bneT c4,bneT c5⟩
      · have d5:e2 = x2:=bneF c5
        have e:=f1 0 (by rw [if_neg d3,if_neg (fun k => k.2 d5)])
        exact fin 0 _ e (by unfold stoL; rw [if_pos e]; rfl)
      · have d4:e2 = (gPm x8 (pIx x8 e3)).2.1:=bneF c4
        have e:=f1 0 (by rw [if_neg d3,if_neg (fun k => k.1 d4)])
        exact fin 0 _ e (by unfold stoL; rw [if_pos e]; rfl)
    · have d1:¬ 0 ≤ pIx x8 e3:=of_decide_eq_false c1
      have e:stoE (x0,x1,x2,x3,x4,(x5,x6,x7),x8,x9) (e0,e1,e2,e3,e4,e5) = 7:=by unfold stoE; rw [if_pos (show pIx x8 e3 < 0 by omega)]
      exact ⟨⟨p1,d1⟩,⟨fun c7 => bad 7 (by decide) e,fun c7 => (by cases c7)⟩⟩)
def L_press:Lay:={ slots:=[(0,.ptr 1 0),(1,.agg tEntry)],boxes:=[(1,siteL)] }
theorem T_press (e0 e1 e2 e3 e4 e5:Int) (x0 x1 x2 x3 x4:Int) (x5:List E4) (x6:List (List Int)) (x7:Int) (x8:List Pm) (x9:Int):mTree (P:=P) [c_within.gc,c_keepsX.gc] (lpOf []) Tryz.f84 L_press true ((),(e0,e1,e2,e3,e4,e5),x0,x1,x2,x3,x4,x5,x6,x7,x8,x9,()) =
  Tree.cond (e2 != x2) (.leaf { res:=SV.int IntKind.i64 (10:Int),boxes:=[[SV.int IntKind.i64 x0,SV.int IntKind.i64 x1,SV.int IntKind.i64 x2,SV.int IntKind.i64 x3,SV.int IntKind.i64 x4,SV.own (50:Nat),SV.sl tIs x6,SV.int IntKind.i64 x7,SV.own (51:Nat),SV.int IntKind.i64 x9]],news:=[Ob.row (26:TypeId) tEl x5,Ob.row (71:TypeId) tPm x8] ++ [] }) (.cond (!wi e5 (0:Int) (68719476736:Int)) (.leaf { res:=SV.int IntKind.i64 (2:Int),boxes:=[[SV.int IntKind.i64 x0,SV.int IntKind.i64 x1,SV.int IntKind.i64 x2,SV.int IntKind.i64 x3,SV.int IntKind.i64 x4,SV.own (50:Nat),SV.sl tIs x6,SV.int IntKind.i64 x7,SV.own (51:Nat),SV.int IntKind.i64 x9]],news:=[Ob.row (26:TypeId) tEl x5,Ob.row (71:TypeId) tPm x8] ++ [] }) (.need (houseE (x5,x6,x7) = (0:Int) ∧ List.length x8 ≤ (1000:Nat)) (.cond (!keepS (x0,x1,x2,x3,e5,(x5,x6,x7),x8,x9) e0) (.leaf { res:=SV.int IntKind.i64 (15:Int),boxes:=[[SV.int IntKind.i64 x0,SV.int IntKind.i64 x1,SV.int IntKind.i64 x2,SV.int IntKind.i64 x3,SV.int IntKind.i64 e5,SV.own (50:Nat),SV.sl tIs x6,SV.int IntKind.i64 x7,SV.own (51:Nat),SV.int IntKind.i64 x9]],news:=[Ob.row (26:TypeId) tEl x5,Ob.row (71:TypeId) tPm x8] ++ [] }) (.leaf { res:=SV.int IntKind.i64 (0:Int),boxes:=[[SV.int IntKind.i64 x0,SV.int IntKind.i64 x1,SV.int IntKind.i64 x2,SV.int IntKind.i64 x3,SV.int IntKind.i64 e5,SV.own (50:Nat),SV.sl tIs x6,SV.int IntKind.i64 x7,SV.own (51:Nat),SV.int IntKind.i64 x9]],news:=[Ob.row (26:TypeId) tEl x5,Ob.row (71:TypeId) tPm x8] ++ [] })))):=by kernel_rfl
def c_press:MC P:=MC.of (α:=Unit × Entry × Int × Int × Int × Int × Int × List E4 × List (List Int) × Int × List Pm × Int × Unit) 84 L_press (fun x => x) (fun x => x) (fun _ => rfl)
  (fun (_,e,x0,x1,x2,x3,x4,x5,x6,x7,x8,x9,_) => some (houseE (x5,x6,x7) = 0 ∧ x8.length ≤ 1000))
  (fun (_,e,x0,x1,x2,x3,x4,x5,x6,x7,x8,x9,_) => ⟨.int .i64 (prsE (x0,x1,x2,x3,x4,(x5,x6,x7),x8,x9) e),[siteO (x0,x1,x2,x3,prsN (x0,x1,x2,x3,x4,(x5,x6,x7),x8,x9) e,(x5,x6,x7),x8,x9)],siteN (x0,x1,x2,x3,prsN (x0,x1,x2,x3,x4,(x5,x6,x7),x8,x9) e,(x5,x6,x7),x8,x9)⟩) (by kernel_rfl) (by kernel_rfl) (by kernel_rfl) (by
    rintro ⟨⟨⟩,⟨e0,e1,e2,e3,e4,e5⟩,x0,x1,x2,x3,x4,x5,x6,x7,x8,x9,⟨⟩⟩ hp
    refine m_of hm (own:=true) (by kernel_rfl) (by kernel_rfl) (by kernel_rfl) (T_press e0 e1 e2 e3 e4 e5 x0 x1 x2 x3 x4 x5 x6 x7 x8 x9) trivial ?_
    obtain ⟨p1,p2⟩ : houseE (x5,x6,x7) = 0 ∧ x8.length ≤ 1000:=hp
    have fin:∀ (m n:Int),prsE (x0,x1,x2,x3,x4,(x5,x6,x7),x8,x9) (e0,e1,e2,e3,e4,e5) = m → prsN (x0,x1,x2,x3,x4,(x5,x6,x7),x8,x9) (e0,e1,e2,e3,e4,e5) = n → (⟨.int .i64 m,[siteO (x0,x1,x2,x3,n,(x5,x6,x7),x8,x9)],siteN (x0,x1,x2,x3,n,(x5,x6,x7),x8,x9)⟩ : MOut) = ⟨.int .i64 (prsE (x0,x1,x2,x3,x4,(x5,x6,x7),x8,x9) (e0,e1,e2,e3,e4,e5)),[siteO (x0,x1,x2,x3,prsN (x0,x1,x2,x3,x4,(x5,x6,x7),x8,x9) (e0,e1,e2,e3,e4,e5),(x5,x6,x7),x8,x9)],siteN (x0,x1,x2,x3,prsN (x0,x1,x2,x3,x4,(x5,x6,x7),x8,x9) (e0,e1,e2,e3,e4,e5),(x5,x6,x7),x8,x9)⟩:=fun m n h1 h2 => by rw [h1,h2]
    have bad:∀ n:Int,n ≠ 0 → prsQ (x0,x1,x2,x3,x4,(x5,x6,x7),x8,x9) (e0,e1,e2,e3,e4,e5) = n → (⟨.int .i64 n,[siteO (x0,x1,x2,x3,x4,(x5,x6,x7),x8,x9)],siteN (x0,x1,x2,x3,x4,(x5,x6,x7),x8,x9)⟩ : MOut) = _:=fun n h0 h => fin n x4 (by unfold prsE; rw [if_pos (by rw [h]; exact h0)]; exact h) (by unfold prsN; rw [if_neg (by rw [h]; exact h0)])
    refine ⟨fun c1 => bad 10 (by decide) ?_,fun c1 => ⟨fun c2 => bad 2 (by decide) ?_,fun c2 => ?_⟩⟩
    · exact if_pos (bneT c1)
    all_goals have d1:¬ e2 ≠ x2:=fun k => k (bneF c1)
    · unfold prsQ; rw [if_neg d1]; exact if_pos (notT c2)
    · have d2:¬ wi e5 0 68719476736 = false:=by rw [notF c2]; decide
      have q:prsQ (x0,x1,x2,x3,x4,(x5,x6,x7),x8,x9) (e0,e1,e2,e3,e4,e5) = 0:=by unfold prsQ; rw [if_neg d1]; exact if_neg d2
      have n:prsN (x0,x1,x2,x3,x4,(x5,x6,x7),x8,x9) (e0,e1,e2,e3,e4,e5) = e5:=by unfold prsN; rw [if_pos q]
      refine ⟨⟨p1,p2⟩,⟨fun c3 => fin 15 e5 ?_ n,fun c3 => fin 0 e5 ?_ n⟩⟩
      · unfold prsE; rw [if_neg (fun k => k q)]; exact if_pos (notT c3)
      · have d3:keepS (setP (x0,x1,x2,x3,x4,(x5,x6,x7),x8,x9) e5) e0 = true:=notF c3
        unfold prsE; rw [if_neg (fun k => k q)]; exact if_neg (show ¬ keepS (setP (x0,x1,x2,x3,x4,(x5,x6,x7),x8,x9) e5) e0 = false by rw [d3]; decide))
def L_offerR:Lay:={ slots:=[(0,.ptr 1 0),(1,.agg tEntry)],boxes:=[(1,siteL)] }
theorem T_offerR (e0 e1 e2 e3 e4 e5:Int) (x0 x1 x2 x3 x4:Int) (x5:List E4) (x6:List (List Int)) (x7:Int) (x8:List Pm) (x9:Int):mTree (P:=P) [c_memberX.gc] (lpOf []) Tryz.f85 L_offerR true ((),(e0,e1,e2,e3,e4,e5),x0,x1,x2,x3,x4,x5,x6,x7,x8,x9,()) =
  Tree.cond (e2 != x2) (.leaf { res:=SV.int IntKind.i64 (10:Int),boxes:=[[SV.int IntKind.i64 x0,SV.int IntKind.i64 x1,SV.int IntKind.i64 x2,SV.int IntKind.i64 x3,SV.int IntKind.i64 x4,SV.own (50:Nat),SV.sl tIs x6,SV.int IntKind.i64 x7,SV.own (51:Nat),SV.int IntKind.i64 x9]],news:=[Ob.row (26:TypeId) tEl x5,Ob.row (71:TypeId) tPm x8] ++ [] }) (.cond (!memB x1 e4) (.leaf { res:=SV.int IntKind.i64 (2:Int),boxes:=[[SV.int IntKind.i64 x0,SV.int IntKind.i64 x1,SV.int IntKind.i64 x2,SV.int IntKind.i64 x3,SV.int IntKind.i64 x4,SV.own (50:Nat),SV.sl tIs x6,SV.int IntKind.i64 x7,SV.own (51:Nat),SV.int IntKind.i64 x9]],news:=[Ob.row (26:TypeId) tEl x5,Ob.row (71:TypeId) tPm x8] ++ [] }) (.cond (e4 == x2) (.leaf { res:=SV.int IntKind.i64 (2:Int),boxes:=[[SV.int IntKind.i64 x0,SV.int IntKind.i64 x1,SV.int IntKind.i64 x2,SV.int IntKind.i64 x3,SV.int IntKind.i64 x4,SV.own (50:Nat),SV.sl tIs x6,SV.int IntKind.i64 x7,SV.own (51:Nat),SV.int IntKind.i64 x9]],news:=[Ob.row (26:TypeId) tEl x5,Ob.row (71:TypeId) tPm x8] ++ [] }) (.leaf { res:=SV.int IntKind.i64 (0:Int),boxes:=[[SV.int IntKind.i64 x0,SV.int IntKind.i64 x1,SV.int IntKind.i64 x2,SV.int IntKind.i64 e4,SV.int IntKind.i64 x4,SV.own (50:Nat),SV.sl tIs x6,SV.int IntKind.i64 x7,SV.own (51:Nat),SV.int IntKind.i64 x9]],news:=[Ob.row (26:TypeId) tEl x5,Ob.row (71:TypeId) tPm x8] ++ [] }))):=by kernel_rfl
def c_offerR:MC P:=MC.of (α:=Unit × Entry × Int × Int × Int × Int × Int × List E4 × List (List Int) × Int × List Pm × Int × Unit) 85 L_offerR (fun x => x) (fun x => x) (fun _ => rfl)
  (fun _ => none)
  (fun (_,e,x0,x1,x2,x3,x4,x5,x6,x7,x8,x9,_) => ⟨.int .i64 (offE (x0,x1,x2,x3,x4,(x5,x6,x7),x8,x9) e),[siteO (x0,x1,x2,offO (x0,x1,x2,x3,x4,(x5,x6,x7),x8,x9) e,x4,(x5,x6,x7),x8,x9)],siteN (x0,x1,x2,offO (x0,x1,x2,x3,x4,(x5,x6,x7),x8,x9) e,x4,(x5,x6,x7),x8,x9)⟩) (by kernel_rfl) (by kernel_rfl) (by kernel_rfl) (by
    rintro ⟨⟨⟩,⟨e0,e1,e2,e3,e4,e5⟩,x0,x1,x2,x3,x4,x5,x6,x7,x8,x9,⟨⟩⟩ hp
    refine m_of hm (own:=true) (by kernel_rfl) (by kernel_rfl) (by kernel_rfl) (T_offerR e0 e1 e2 e3 e4 e5 x0 x1 x2 x3 x4 x5 x6 x7 x8 x9) trivial ?_
    have fin:∀ (m n:Int),offE (x0,x1,x2,x3,x4,(x5,x6,x7),x8,x9) (e0,e1,e2,e3,e4,e5) = m → offO (x0,x1,x2,x3,x4,(x5,x6,x7),x8,x9) (e0,e1,e2,e3,e4,e5) = n → (⟨.int .i64 m,[siteO (x0,x1,x2,n,x4,(x5,x6,x7),x8,x9)],siteN (x0,x1,x2,n,x4,(x5,x6,x7),x8,x9)⟩ : MOut) = ⟨.int .i64 (offE (x0,x1,x2,x3,x4,(x5,x6,x7),x8,x9) (e0,e1,e2,e3,e4,e5)),[siteO (x0,x1,x2,offO (x0,x1,x2,x3,x4,(x5,x6,x7),x8,x9) (e0,e1,e2,e3,e4,e5),x4,(x5,x6,x7),x8,x9)],siteN (x0,x1,x2,offO (x0,x1,x2,x3,x4,(x5,x6,x7),x8,x9) (e0,e1,e2,e3,e4,e5),x4,(x5,x6,x7),x8,x9)⟩:=fun m n h1 h2 => by rw [h1,h2]
    unfold offO offE offB at fin
    dsimp only at fin
    refine ⟨fun c1 => fin _ _ ?_ ?_,fun c1 => ⟨fun c2 => fin _ _ ?_ ?_,fun c2 => ⟨fun c3 => fin _ _ ?_ ?_,fun c3 => fin _ _ ?_ ?_⟩⟩⟩
    · simp [c1]
    · simp [c1]
    · simp [c1,c2]
    · simp [c1,c2]
    · simp [c1,c2,c3]
    · simp [c1,c2,c3]
    · simp [c1,c2,c3]
    · simp [c1,c2,c3])
def L_takeR:Lay:={ slots:=[(0,.ptr 1 0),(1,.agg tEntry)],boxes:=[(1,siteL)] }
theorem T_takeR (e0 e1 e2 e3 e4 e5:Int) (x0 x1 x2 x3 x4:Int) (x5:List E4) (x6:List (List Int)) (x7:Int) (x8:List Pm) (x9:Int):mTree (P:=P) [] (lpOf []) Tryz.f86 L_takeR true ((),(e0,e1,e2,e3,e4,e5),x0,x1,x2,x3,x4,x5,x6,x7,x8,x9,()) =
  Tree.cond (e2 != x3) (.leaf { res:=SV.int IntKind.i64 (10:Int),boxes:=[[SV.int IntKind.i64 x0,SV.int IntKind.i64 x1,SV.int IntKind.i64 x2,SV.int IntKind.i64 x3,SV.int IntKind.i64 x4,SV.own (50:Nat),SV.sl tIs x6,SV.int IntKind.i64 x7,SV.own (51:Nat),SV.int IntKind.i64 x9]],news:=[Ob.row (26:TypeId) tEl x5,Ob.row (71:TypeId) tPm x8] ++ [] }) (.leaf { res:=SV.int IntKind.i64 (0:Int),boxes:=[[SV.int IntKind.i64 x0,SV.int IntKind.i64 x1,SV.int IntKind.i64 e2,SV.int IntKind.i64 (-1:Int),SV.int IntKind.i64 x4,SV.own (50:Nat),SV.sl tIs x6,SV.int IntKind.i64 x7,SV.own (51:Nat),SV.int IntKind.i64 x9]],news:=[Ob.row (26:TypeId) tEl x5,Ob.row (71:TypeId) tPm x8] ++ [] }):=by kernel_rfl
def c_takeR:MC P:=MC.of (α:=Unit × Entry × Int × Int × Int × Int × Int × List E4 × List (List Int) × Int × List Pm × Int × Unit) 86 L_takeR (fun x => x) (fun x => x) (fun _ => rfl)
  (fun _ => none)
  (fun (_,e,x0,x1,x2,x3,x4,x5,x6,x7,x8,x9,_) => ⟨.int .i64 (takE (x0,x1,x2,x3,x4,(x5,x6,x7),x8,x9) e),[siteO (x0,x1,takH (x0,x1,x2,x3,x4,(x5,x6,x7),x8,x9) e,takO (x0,x1,x2,x3,x4,(x5,x6,x7),x8,x9) e,x4,(x5,x6,x7),x8,x9)],siteN (x0,x1,takH (x0,x1,x2,x3,x4,(x5,x6,x7),x8,x9) e,takO (x0,x1,x2,x3,x4,(x5,x6,x7),x8,x9) e,x4,(x5,x6,x7),x8,x9)⟩) (by kernel_rfl) (by kernel_rfl) (by kernel_rfl) (by
    rintro ⟨⟨⟩,⟨e0,e1,e2,e3,e4,e5⟩,x0,x1,x2,x3,x4,x5,x6,x7,x8,x9,⟨⟩⟩ hp
    refine m_of hm (own:=true) (by kernel_rfl) (by kernel_rfl) (by kernel_rfl) (T_takeR e0 e1 e2 e3 e4 e5 x0 x1 x2 x3 x4 x5 x6 x7 x8 x9) trivial ?_
    have fin:∀ (m n k:Int),takE (x0,x1,x2,x3,x4,(x5,x6,x7),x8,x9) (e0,e1,e2,e3,e4,e5) = m → takH (x0,x1,x2,x3,x4,(x5,x6,x7),x8,x9) (e0,e1,e2,e3,e4,e5) = n → takO (x0,x1,x2,x3,x4,(x5,x6,x7),x8,x9) (e0,e1,e2,e3,e4,e5) = k → (⟨.int .i64 m,[siteO (x0,x1,n,k,x4,(x5,x6,x7),x8,x9)],siteN (x0,x1,n,k,x4,(x5,x6,x7),x8,x9)⟩ : MOut) = ⟨.int .i64 (takE (x0,x1,x2,x3,x4,(x5,x6,x7),x8,x9) (e0,e1,e2,e3,e4,e5)),[siteO (x0,x1,takH (x0,x1,x2,x3,x4,(x5,x6,x7),x8,x9) (e0,e1,e2,e3,e4,e5),takO (x0,x1,x2,x3,x4,(x5,x6,x7),x8,x9) (e0,e1,e2,e3,e4,e5),x4,(x5,x6,x7),x8,x9)],siteN (x0,x1,takH (x0,x1,x2,x3,x4,(x5,x6,x7),x8,x9) (e0,e1,e2,e3,e4,e5),takO (x0,x1,x2,x3,x4,(x5,x6,x7),x8,x9) (e0,e1,e2,e3,e4,e5),x4,(x5,x6,x7),x8,x9)⟩:=fun m n k h1 h2 h3 => by rw [h1,h2,h3]
    unfold takH takO takE at fin
    dsimp only at fin
    refine ⟨fun c1 => fin _ _ _ ?_ ?_ ?_,fun c1 => fin _ _ _ ?_ ?_ ?_⟩
    all_goals simp [c1])
end
end Go.MB
