/- The entry that gives a permit. -/
import Derived.Test.YtfhomgggbhjglaaGreatMuU
namespace Go.MB
open Go Go.Sx Go.Proofs
set_option linter.unusedVariables false
set_option linter.unusedSimpArgs false
noncomputable section
def lwP (op:Int):List Pm → Int → Int
 | [],i => i
 | p :: r,i => if p.1 < op then lwP op r (i + 1) else i
theorem lwP_rng (op:Int):∀ (l:List Pm) (i:Int),i ≤ lwP op l i∧lwP op l i ≤ i + l.length
 | [],i => by rw [lwP]; simp
 | p :: r,i => by
  rw [lwP,List.length_cons]
  have:=lwP_rng op r (i + 1)
  split <;> omega
theorem lwP_step {op:Int} {l:List Pm} {i:Int} (h0:0 ≤ i) (h:i < l.length):lwP op (l.drop i.toNat) i = if (l.getD i.toNat (0,0,0,false)).1 < op then lwP op (l.drop (i + 1).toNat) (i + 1) else i:=by
 rw [drop_step (0,0,0,false) h0 h,lwP]
def pmN (e:Entry):Pm:=(e.2.2.2.1,e.2.2.2.2.1,e.2.2.2.2.2,false)
def insP (p:Pm) (l:List Pm):List Pm:=l.take (lwP p.1 l 0).toNat ++ [p] ++ l.drop (lwP p.1 l 0).toNat
def prmE (s:Site) (e:Entry):Int :=
 if e.2.2.1 ≠ s.2.2.1 then 10 else if e.2.2.2.1 < 0 then 2 else if e.2.2.2.1 ≥ 16 then 2 else if memB s.2.1 e.2.2.2.2.1 = false then 2 else if wi e.2.2.2.2.2 e.1 2199023255552 = false then 2
 else if 0 ≤ pIx s.2.2.2.2.2.2.1 e.2.2.2.1∧(pmT s e).2.2.2 = true then 9 else 0
def prmL (s:Site) (e:Entry):List Pm:=if prmE s e = 0 then (if 0 ≤ pIx s.2.2.2.2.2.2.1 e.2.2.2.1 then s.2.2.2.2.2.2.1.set (pIx s.2.2.2.2.2.2.1 e.2.2.2.1).toNat (pmN e) else insP (pmN e) s.2.2.2.2.2.2.1) else s.2.2.2.2.2.2.1
def L_allow0:Lay:={ slots:=[(0,.ptr 1 0),(1,.agg tEntry)],boxes:=[(1,[.val tI,.val tI,.val tI,.val tI,.val tI,.row 47 tEl,.val tIss,.val tI,.row 49 tPm,.val tI])],rb:=2000000 }
def L_allw:Lay:={ slots:=[(0,.ptr 1 0),(6,.ptr 7100 0),(7,.val tI)],boxes:=[(1,[.val tI,.val tI,.val tI,.val tI,.val tI,.row 47 (.pair tI tV),.val (.sl tIs),.val tI,.row 49 (.pair tI (.pair tI (.pair tI .bool))),.val tI]),(7100,[.val tI,.val tI,.val tI,.val .bool])] }
def L_allw_0:Lay:={ slots:=[(0,.ptr 1 0),(6,.ptr 7100 0),(7,.val tI)],boxes:=[(1,[.val tI,.val tI,.val tI,.val tI,.val tI,.row 47 (.pair tI tV),.val (.sl tIs),.val tI,.row 49 (.pair tI (.pair tI (.pair tI .bool))),.val tI]),(7100,[.val tI,.val tI,.val tI,.val .bool])] }
def X_allw:Exit → St → Option Lay
 | .exit 1,_ => some L_allw_0
 | _,_ => none
abbrev C_allw:Code:=loopC (bodyOf Tryz.f141) 1
theorem B_allw (i x0 x1 x2 x3 x4:Int) (x5:List (Int×V)) (x6:List (List Int)) (x7:Int) (x8:List (Int×(Int×(Int×Bool)))) (x9 op w u:Int) (o:Bool):loopBodyA (P:=P) [] (lpOf []) [] 100 (usd noU (L_allow0.ids ++ rowIds 2000000 L_allow0.shs)) (inner C_allw) L_allw X_allw (α:=Unit×Unit×Int×Int×Int×Int×Int×Int×List (Int×V)×List (List Int)×Int×List (Int×(Int×(Int×Bool)))×Int×Int×Int×Int×Bool×Unit) (fun x => x) (fun x => x) ((),(),i,x0,x1,x2,x3,x4,x5,x6,x7,x8,x9,op,w,u,o,()) =
 Tree.cond (decide (i < (x8.length:Int))) (.need ((0:Int) ≤ i∧i < (x8.length:Int)) (.need (Int.toNat i < x8.length) (.cond (decide ((x8.getD i.toNat ((0:Int),(0:Int),(0:Int),false)).1 < op)) (.leaf (Sum.inl ((),(),IntKind.i64.wrap (i + (1:Int)),x0,x1,x2,x3,x4,x5,x6,x7,x8,x9,op,w,u,o,()))) (.leaf (Sum.inr (Exit.exit (1:Nat),Lay.st L_allw_0 (usd noU (Lay.ids L_allow0 ++ rowIds (2000000:Nat) (Lay.shs L_allow0))) ((),(),i,x0,x1,x2,x3,x4,x5,x6,x7,x8,x9,op,w,u,o,()))))))) (.leaf (Sum.inr (Exit.exit (1:Nat),Lay.st L_allw_0 (usd noU (Lay.ids L_allow0 ++ rowIds (2000000:Nat) (Lay.shs L_allow0))) ((),(),i,x0,x1,x2,x3,x4,x5,x6,x7,x8,x9,op,w,u,o,())))):=by kernel_rfl
def inv_allw:Unit×Unit×Int×Int×Int×Int×Int×Int×List (Int×V)×List (List Int)×Int×List (Int×(Int×(Int×Bool)))×Int×Int×Int×Int×Bool×Unit → Prop:=fun ((),(),i,x0,x1,x2,x3,x4,x5,x6,x7,x8,x9,op,w,u,o,()) => 0 ≤ i∧i ≤ x8.length∧x8.length ≤ 1000
def O_allw:Unit×Unit×Int×Int×Int×Int×Int×Int×List (Int×V)×List (List Int)×Int×List (Int×(Int×(Int×Bool)))×Int×Int×Int×Int×Bool×Unit → Tree (Exit×St):=fun ((),(),i,x0,x1,x2,x3,x4,x5,x6,x7,x8,x9,op,w,u,o,()) => (.leaf (.exit 1,L_allw_0.st (usd noU (L_allow0.ids ++ rowIds 2000000 L_allow0.shs)) ((),(),(lwP op (x8.drop i.toNat) i),x0,x1,x2,x3,x4,x5,x6,x7,x8,x9,op,w,u,o,())))
def R_allw:LRun:=runOf 100 L_allw (fun x => x) (inv_allw) (O_allw)
theorem K_allw:LoopOk P [] 100 none (usd noU (L_allow0.ids ++ rowIds 2000000 L_allow0.shs)) C_allw (R_allw):=by
 refine loop_of hm (cx:=[]) [] (xl:=X_allw) (α:=Unit×Unit×Int×Int×Int×Int×Int×Int×List (Int×V)×List (List Int)×Int×List (Int×(Int×(Int×Bool)))×Int×Int×Int×Int×Bool×Unit) (fun x => x) (fun ((),(),i,x0,x1,x2,x3,x4,x5,x6,x7,x8,x9,op,w,u,o,()) => (x8.length - i).toNat) (fun _ => rfl) (by kernel_rfl) (by kernel_rfl) ?_ (by kernel_rfl) trivial ?_
 ·intro e S L' h
  unfold X_allw at h
  split at h <;> first | (cases h; done) | (cases h; kernel_rfl) | (rcases bif_some h with h | h <;> cases h <;> kernel_rfl)
 ·rintro ⟨⟨⟩,⟨⟩,i,x0,x1,x2,x3,x4,x5,x6,x7,x8,x9,op,w,u,o,⟨⟩⟩ hinv Q hQ
  refine hold_of_eq (B_allw i x0 x1 x2 x3 x4 x5 x6 x7 x8 x9 op w u o) ?_
  obtain ⟨h0,h1,h2⟩:=hinv
  rw [W_id (n:=i + 1) (by omega) (by omega)]
  have hQ' : Q (.exit 1,L_allw_0.st (usd noU (L_allow0.ids ++ rowIds 2000000 L_allow0.shs)) ((),(),lwP op (x8.drop i.toNat) i,x0,x1,x2,x3,x4,x5,x6,x7,x8,x9,op,w,u,o,())):=hQ
  refine ⟨fun c1 => ?_,fun c1 => ?_⟩
  ·have d1:=of_decide_eq_true c1
   rw [lwP_step h0 d1] at hQ'
   refine ⟨⟨h0,d1⟩,⟨by omega,⟨fun c2 => ?_,fun c2 => ?_⟩⟩⟩
   ·rw [if_pos (of_decide_eq_true c2)] at hQ'
    exact ⟨⟨⟨by omega,by omega,h2⟩,by show ((x8.length:Int) - (i + 1)).toNat < ((x8.length:Int) - i).toNat; omega⟩,hQ'⟩
   ·rw [if_neg (of_decide_eq_false c2)] at hQ'
    exact hQ'
  ·rw [drop_end (of_decide_eq_false c1),lwP] at hQ'
   exact hQ'
def L_allow:Lay:={ slots:=[(0,.ptr 1 0),(1,.agg tEntry)],boxes:=[(1,[.val tI,.val tI,.val tI,.val tI,.val tI,.row 47 tEl,.val tIss,.val tI,.row 49 tPm,.val tI])],rb:=2000000 }
theorem T_allow (e0 e1 e2 e3 e4 e5:Int) (x0 x1 x2 x3 x4:Int) (x5:List E4) (x6:List (List Int)) (x7:Int) (x8:List Pm) (x9:Int) (x1_:Nat) (hx1_:x1_ = (Int.toNat (lwP e3 (List.drop (Int.toNat (0:Int)) x8) (0:Int)))):mTree (P:=P) [c_prm,c_memberX.gc,c_within.gc,c_ins,c_flag] (lpOf [(1,R_allw)]) Tryz.f141 L_allow true ((),(e0,e1,e2,e3,e4,e5),x0,x1,x2,x3,x4,x5,x6,x7,x8,x9,()) =
 Tree.cond (decide ((0:Int) ≤ pIx x8 e3)) (.need ((x8.length:Int) < (2:Int) ^ (62:Nat)∧(0:Int) ≤ pIx x8 e3) (.cond (e2 != x2) (.leaf { res:=.int .i64 (10:Int),boxes:=[[.int .i64 x0,.int .i64 x1,.int .i64 x2,.int .i64 x3,.int .i64 x4,.own (nat_lit 100 + (0:Nat)),.sl tIs x6,.int .i64 x7,.own (nat_lit 100 + ((0:Nat) + (1:Nat))),.int .i64 x9]],news:=[.row (47:TypeId) tEl x5,.row (49:TypeId) tPm x8] }) (.cond (decide (e3 < (0:Int))) (.leaf { res:=.int .i64 (2:Int),boxes:=[[.int .i64 x0,.int .i64 x1,.int .i64 x2,.int .i64 x3,.int .i64 x4,.own (nat_lit 100 + (0:Nat)),.sl tIs x6,.int .i64 x7,.own (nat_lit 100 + ((0:Nat) + (1:Nat))),.int .i64 x9]],news:=[.row (47:TypeId) tEl x5,.row (49:TypeId) tPm x8] }) (.cond (decide (e3 ≥ (16:Int))) (.leaf { res:=.int .i64 (2:Int),boxes:=[[.int .i64 x0,.int .i64 x1,.int .i64 x2,.int .i64 x3,.int .i64 x4,.own (nat_lit 100 + (0:Nat)),.sl tIs x6,.int .i64 x7,.own (nat_lit 100 + ((0:Nat) + (1:Nat))),.int .i64 x9]],news:=[.row (47:TypeId) tEl x5,.row (49:TypeId) tPm x8] }) (.cond (!memB x1 e4) (.leaf { res:=.int .i64 (2:Int),boxes:=[[.int .i64 x0,.int .i64 x1,.int .i64 x2,.int .i64 x3,.int .i64 x4,.own (nat_lit 100 + (0:Nat)),.sl tIs x6,.int .i64 x7,.own (nat_lit 100 + ((0:Nat) + (1:Nat))),.int .i64 x9]],news:=[.row (47:TypeId) tEl x5,.row (49:TypeId) tPm x8] }) (.cond (!wi e5 e0 (2199023255552:Int)) (.leaf { res:=.int .i64 (2:Int),boxes:=[[.int .i64 x0,.int .i64 x1,.int .i64 x2,.int .i64 x3,.int .i64 x4,.own (nat_lit 100 + (0:Nat)),.sl tIs x6,.int .i64 x7,.own (nat_lit 100 + ((0:Nat) + (1:Nat))),.int .i64 x9]],news:=[.row (47:TypeId) tEl x5,.row (49:TypeId) tPm x8] }) (.cond true (.need (Int.toNat (pIx x8 e3) < x8.length) (.cond (List.getD x8 (Int.toNat (pIx x8 e3)) ((0:Int),(0:Int),(0:Int),false)).2.2.2 (.leaf { res:=.int .i64 (9:Int),boxes:=[[.int .i64 x0,.int .i64 x1,.int .i64 x2,.int .i64 x3,.int .i64 x4,.own (nat_lit 100 + (0:Nat)),.sl tIs x6,.int .i64 x7,.own (nat_lit 100 + ((0:Nat) + (1:Nat))),.int .i64 x9]],news:=[.row (47:TypeId) tEl x5,.row (49:TypeId) tPm x8] }) (.cond true (.need (Int.toNat (pIx x8 e3) < x8.length) (.leaf { res:=.int .i64 (0:Int),boxes:=[[.int .i64 x0,.int .i64 x1,.int .i64 x2,.int .i64 x3,.int .i64 x4,.own (nat_lit 100 + (0:Nat)),.sl tIs x6,.int .i64 x7,.own (nat_lit 100 + ((0:Nat) + (1:Nat))),.int .i64 x9]],news:=[.row (47:TypeId) tEl x5,.row (49:TypeId) tPm (List.set x8 (Int.toNat (pIx x8 e3)) (e3,e4,e5,false))] })) (.need (inv_allw ((),(),(0:Int),x0,x1,x2,x3,x4,x5,x6,x7,x8,x9,e3,e4,e5,false,())) (.cond (decide (lwP e3 (List.drop (Int.toNat (0:Int)) x8) (0:Int) = (x8.length:Int))) (.need (lwP e3 (List.drop (Int.toNat (0:Int)) x8) (0:Int) = (x8.length:Int)∧List.length [(e3,e4,e5,false)] = (1:Nat)∧x8.length ≤ (1000:Nat)) (.leaf { res:=.int .i64 (0:Int),boxes:=[[.int .i64 x0,.int .i64 x1,.int .i64 x2,.int .i64 x3,.int .i64 x4,.own (nat_lit 100 + (0:Nat)),.sl tIs x6,.int .i64 x7,.own (nat_lit 100 + ((0:Nat) + (1:Nat))),.int .i64 x9]],news:=[.row (47:TypeId) (Ty.pair tI tV) x5,.row (49:TypeId) tPm (x8 ++ [(e3,e4,e5,false)])] })) (.need ((0:Int) ≤ lwP e3 (List.drop (Int.toNat (0:Int)) x8) (0:Int)∧lwP e3 (List.drop (Int.toNat (0:Int)) x8) (0:Int) < (x8.length:Int)∧List.length [(e3,e4,e5,false)] = (1:Nat)∧(x8.length + (1:Nat)) * (32:Nat) ≤ (140737488355328:Nat)) (.leaf { res:=.int .i64 (0:Int),boxes:=[[.int .i64 x0,.int .i64 x1,.int .i64 x2,.int .i64 x3,.int .i64 x4,.own (nat_lit 100 + (0:Nat)),.sl tIs x6,.int .i64 x7,.own (nat_lit 100 + ((0:Nat) + (1:Nat))),.int .i64 x9]],news:=[.row (47:TypeId) (Ty.pair tI tV) x5,.row (49:TypeId) tPm (List.take x1_ x8 ++ [(e3,e4,e5,false)] ++ List.drop x1_ x8)] }))))))) (.cond true (.need (Int.toNat (pIx x8 e3) < x8.length) (.leaf { res:=.int .i64 (0:Int),boxes:=[[.int .i64 x0,.int .i64 x1,.int .i64 x2,.int .i64 x3,.int .i64 x4,.own (nat_lit 100 + (0:Nat)),.sl tIs x6,.int .i64 x7,.own (nat_lit 100 + ((0:Nat) + (1:Nat))),.int .i64 x9]],news:=[.row (47:TypeId) tEl x5,.row (49:TypeId) tPm (List.set x8 (Int.toNat (pIx x8 e3)) (e3,e4,e5,false))] })) (.need (inv_allw ((),(),(0:Int),x0,x1,x2,x3,x4,x5,x6,x7,x8,x9,e3,e4,e5,false,())) (.cond (decide (lwP e3 (List.drop (Int.toNat (0:Int)) x8) (0:Int) = (x8.length:Int))) (.need (lwP e3 (List.drop (Int.toNat (0:Int)) x8) (0:Int) = (x8.length:Int)∧List.length [(e3,e4,e5,false)] = (1:Nat)∧x8.length ≤ (1000:Nat)) (.leaf { res:=.int .i64 (0:Int),boxes:=[[.int .i64 x0,.int .i64 x1,.int .i64 x2,.int .i64 x3,.int .i64 x4,.own (nat_lit 100 + (0:Nat)),.sl tIs x6,.int .i64 x7,.own (nat_lit 100 + ((0:Nat) + (1:Nat))),.int .i64 x9]],news:=[.row (47:TypeId) (Ty.pair tI tV) x5,.row (49:TypeId) tPm (x8 ++ [(e3,e4,e5,false)])] })) (.need ((0:Int) ≤ lwP e3 (List.drop (Int.toNat (0:Int)) x8) (0:Int)∧lwP e3 (List.drop (Int.toNat (0:Int)) x8) (0:Int) < (x8.length:Int)∧List.length [(e3,e4,e5,false)] = (1:Nat)∧(x8.length + (1:Nat)) * (32:Nat) ≤ (140737488355328:Nat)) (.leaf { res:=.int .i64 (0:Int),boxes:=[[.int .i64 x0,.int .i64 x1,.int .i64 x2,.int .i64 x3,.int .i64 x4,.own (nat_lit 100 + (0:Nat)),.sl tIs x6,.int .i64 x7,.own (nat_lit 100 + ((0:Nat) + (1:Nat))),.int .i64 x9]],news:=[.row (47:TypeId) (Ty.pair tI tV) x5,.row (49:TypeId) tPm (List.take x1_ x8 ++ [(e3,e4,e5,false)] ++ List.drop x1_ x8)] })))))))))))) (.need ((x8.length:Int) < (2:Int) ^ (62:Nat)∧¬(0:Int) ≤ pIx x8 e3) (.cond (e2 != x2) (.leaf { res:=.int .i64 (10:Int),boxes:=[[.int .i64 x0,.int .i64 x1,.int .i64 x2,.int .i64 x3,.int .i64 x4,.own (nat_lit 100 + (0:Nat)),.sl tIs x6,.int .i64 x7,.own (nat_lit 100 + ((0:Nat) + (1:Nat))),.int .i64 x9]],news:=[.row (47:TypeId) tEl x5,.row (49:TypeId) tPm x8] }) (.cond (decide (e3 < (0:Int))) (.leaf { res:=.int .i64 (2:Int),boxes:=[[.int .i64 x0,.int .i64 x1,.int .i64 x2,.int .i64 x3,.int .i64 x4,.own (nat_lit 100 + (0:Nat)),.sl tIs x6,.int .i64 x7,.own (nat_lit 100 + ((0:Nat) + (1:Nat))),.int .i64 x9]],news:=[.row (47:TypeId) tEl x5,.row (49:TypeId) tPm x8] }) (.cond (decide (e3 ≥ (16:Int))) (.leaf { res:=.int .i64 (2:Int),boxes:=[[.int .i64 x0,.int .i64 x1,.int .i64 x2,.int .i64 x3,.int .i64 x4,.own (nat_lit 100 + (0:Nat)),.sl tIs x6,.int .i64 x7,.own (nat_lit 100 + ((0:Nat) + (1:Nat))),.int .i64 x9]],news:=[.row (47:TypeId) tEl x5,.row (49:TypeId) tPm x8] }) (.cond (!memB x1 e4) (.leaf { res:=.int .i64 (2:Int),boxes:=[[.int .i64 x0,.int .i64 x1,.int .i64 x2,.int .i64 x3,.int .i64 x4,.own (nat_lit 100 + (0:Nat)),.sl tIs x6,.int .i64 x7,.own (nat_lit 100 + ((0:Nat) + (1:Nat))),.int .i64 x9]],news:=[.row (47:TypeId) tEl x5,.row (49:TypeId) tPm x8] }) (.cond (!wi e5 e0 (2199023255552:Int)) (.leaf { res:=.int .i64 (2:Int),boxes:=[[.int .i64 x0,.int .i64 x1,.int .i64 x2,.int .i64 x3,.int .i64 x4,.own (nat_lit 100 + (0:Nat)),.sl tIs x6,.int .i64 x7,.own (nat_lit 100 + ((0:Nat) + (1:Nat))),.int .i64 x9]],news:=[.row (47:TypeId) tEl x5,.row (49:TypeId) tPm x8] }) (.cond false (Tree.fail (1051:Nat)) (.cond false (Tree.fail (1066:Nat)) (.need (inv_allw ((),(),(0:Int),x0,x1,x2,x3,x4,x5,x6,x7,x8,x9,e3,e4,e5,false,())) (.cond (decide (lwP e3 (List.drop (Int.toNat (0:Int)) x8) (0:Int) = (x8.length:Int))) (.need (lwP e3 (List.drop (Int.toNat (0:Int)) x8) (0:Int) = (x8.length:Int)∧List.length [(e3,e4,e5,false)] = (1:Nat)∧x8.length ≤ (1000:Nat)) (.leaf { res:=.int .i64 (0:Int),boxes:=[[.int .i64 x0,.int .i64 x1,.int .i64 x2,.int .i64 x3,.int .i64 x4,.own (nat_lit 100 + (0:Nat)),.sl tIs x6,.int .i64 x7,.own (nat_lit 100 + ((0:Nat) + (1:Nat))),.int .i64 x9]],news:=[.row (47:TypeId) (Ty.pair tI tV) x5,.row (49:TypeId) tPm (x8 ++ [(e3,e4,e5,false)])] })) (.need ((0:Int) ≤ lwP e3 (List.drop (Int.toNat (0:Int)) x8) (0:Int)∧lwP e3 (List.drop (Int.toNat (0:Int)) x8) (0:Int) < (x8.length:Int)∧List.length [(e3,e4,e5,false)] = (1:Nat)∧(x8.length + (1:Nat)) * (32:Nat) ≤ (140737488355328:Nat)) (.leaf { res:=.int .i64 (0:Int),boxes:=[[.int .i64 x0,.int .i64 x1,.int .i64 x2,.int .i64 x3,.int .i64 x4,.own (nat_lit 100 + (0:Nat)),.sl tIs x6,.int .i64 x7,.own (nat_lit 100 + ((0:Nat) + (1:Nat))),.int .i64 x9]],news:=[.row (47:TypeId) (Ty.pair tI tV) x5,.row (49:TypeId) tPm (List.take x1_ x8 ++ [(e3,e4,e5,false)] ++ List.drop x1_ x8)] })))))))))))):=by
 subst hx1_; kernel_rfl
def c_allow:MC P:=MC.of (α:=Unit×Entry×Int×Int×Int×Int×Int×List E4×List (List Int)×Int×List Pm×Int×Unit) 141 L_allow (fun x => x) (fun x => x) (fun _ => rfl)
 (fun (_,e,x0,x1,x2,x3,x4,x5,x6,x7,x8,x9,_) => some (x8.length ≤ 1000))
 (fun (_,e,x0,x1,x2,x3,x4,x5,x6,x7,x8,x9,_) => (⟨.int .i64 (prmE (x0,x1,x2,x3,x4,(x5,x6,x7),x8,x9) e),[[.int .i64 x0,.int .i64 x1,.int .i64 x2,.int .i64 x3,.int .i64 x4,.own 100,.sl tIs x6,.int .i64 x7,.own 101,.int .i64 x9]],[.row 47 tEl x5,.row 49 tPm (prmL (x0,x1,x2,x3,x4,(x5,x6,x7),x8,x9) e)]⟩ : MOut)) (by kernel_rfl) (by kernel_rfl) (by kernel_rfl) (by
  rintro ⟨⟨⟩,⟨e0,e1,e2,e3,e4,e5⟩,x0,x1,x2,x3,x4,x5,x6,x7,x8,x9,⟨⟩⟩ hp
  refine m_of hm (own:=true) (by kernel_rfl) (by kernel_rfl) (by kernel_rfl) (T_allow e0 e1 e2 e3 e4 e5 x0 x1 x2 x3 x4 x5 x6 x7 x8 x9 _ rfl) ⟨K_allw,trivial⟩ ?_
  have hp' : x8.length ≤ 1000:=hp
  have p62:(x8.length:Int) < 2 ^ 62:=by omega
  have fin:∀ (m:Int) (l:List Pm),prmE (x0,x1,x2,x3,x4,(x5,x6,x7),x8,x9) (e0,e1,e2,e3,e4,e5) = m → prmL (x0,x1,x2,x3,x4,(x5,x6,x7),x8,x9) (e0,e1,e2,e3,e4,e5) = l → (⟨.int .i64 (m),[[.int .i64 x0,.int .i64 x1,.int .i64 x2,.int .i64 x3,.int .i64 x4,.own 100,.sl tIs x6,.int .i64 x7,.own 101,.int .i64 x9]],[.row 47 tEl x5,.row 49 tPm (l)]⟩ : MOut) = (⟨.int .i64 (prmE (x0,x1,x2,x3,x4,(x5,x6,x7),x8,x9) (e0,e1,e2,e3,e4,e5)),[[.int .i64 x0,.int .i64 x1,.int .i64 x2,.int .i64 x3,.int .i64 x4,.own 100,.sl tIs x6,.int .i64 x7,.own 101,.int .i64 x9]],[.row 47 tEl x5,.row 49 tPm (prmL (x0,x1,x2,x3,x4,(x5,x6,x7),x8,x9) (e0,e1,e2,e3,e4,e5))]⟩ : MOut):=fun m l h1 h2 => by rw [h1,h2]
  have bad:∀ n:Int,n ≠ 0 → prmE (x0,x1,x2,x3,x4,(x5,x6,x7),x8,x9) (e0,e1,e2,e3,e4,e5) = n → (⟨.int .i64 (n),[[.int .i64 x0,.int .i64 x1,.int .i64 x2,.int .i64 x3,.int .i64 x4,.own 100,.sl tIs x6,.int .i64 x7,.own 101,.int .i64 x9]],[.row 47 tEl x5,.row 49 tPm (x8)]⟩ : MOut) = (⟨.int .i64 (prmE (x0,x1,x2,x3,x4,(x5,x6,x7),x8,x9) (e0,e1,e2,e3,e4,e5)),[[.int .i64 x0,.int .i64 x1,.int .i64 x2,.int .i64 x3,.int .i64 x4,.own 100,.sl tIs x6,.int .i64 x7,.own 101,.int .i64 x9]],[.row 47 tEl x5,.row 49 tPm (prmL (x0,x1,x2,x3,x4,(x5,x6,x7),x8,x9) (e0,e1,e2,e3,e4,e5))]⟩ : MOut):=fun n h0 h => fin n x8 h (by unfold prmL; rw [h,if_neg h0])
  have hlt:pIx x8 e3 < x8.length:=ixS_ltL
  have a1:e2 ≠ x2 → prmE (x0,x1,x2,x3,x4,(x5,x6,x7),x8,x9) (e0,e1,e2,e3,e4,e5) = 10:=fun h => by unfold prmE; rw [if_pos h]
  have a2:e2 = x2 → e3 < 0 → prmE (x0,x1,x2,x3,x4,(x5,x6,x7),x8,x9) (e0,e1,e2,e3,e4,e5) = 2:=fun h1 h => by unfold prmE; rw [if_neg (fun k => k h1),if_pos h]
  have a3:e2 = x2 → ¬ e3 < 0 → e3 ≥ 16 → prmE (x0,x1,x2,x3,x4,(x5,x6,x7),x8,x9) (e0,e1,e2,e3,e4,e5) = 2:=fun h1 h2 h => by unfold prmE; rw [if_neg (fun k => k h1),if_neg h2,if_pos h]
  have a4:e2 = x2 → ¬ e3 < 0 → ¬ e3 ≥ 16 → memB x1 e4 = false → prmE (x0,x1,x2,x3,x4,(x5,x6,x7),x8,x9) (e0,e1,e2,e3,e4,e5) = 2:=fun h1 h2 h3 h => by unfold prmE; rw [if_neg (fun k => k h1),if_neg h2,if_neg h3,if_pos h]
  have a5:e2 = x2 → ¬ e3 < 0 → ¬ e3 ≥ 16 → memB x1 e4 = true → wi e5 e0 2199023255552 = false → prmE (x0,x1,x2,x3,x4,(x5,x6,x7),x8,x9) (e0,e1,e2,e3,e4,e5) = 2:=fun h1 h2 h3 h4 h => by unfold prmE; rw [if_neg (fun k => k h1),if_neg h2,if_neg h3,if_neg (by rw [h4]; decide),if_pos h]
  have a6:e2 = x2 → ¬ e3 < 0 → ¬ e3 ≥ 16 → memB x1 e4 = true → wi e5 e0 2199023255552 = true → prmE (x0,x1,x2,x3,x4,(x5,x6,x7),x8,x9) (e0,e1,e2,e3,e4,e5) = if 0 ≤ pIx x8 e3∧(gPm x8 (pIx x8 e3)).2.2.2 = true then 9 else 0:=fun h1 h2 h3 h4 h5 => by unfold prmE; rw [if_neg (fun k => k h1),if_neg h2,if_neg h3,if_neg (by rw [h4]; decide),if_neg (by rw [h5]; decide)]; rfl
  have hi0:inv_allw ((),(),0,x0,x1,x2,x3,x4,x5,x6,x7,x8,x9,e3,e4,e5,false,()):=⟨by decide,by omega,hp'⟩
  have hlw:=lwP_rng e3 x8 0
  rw [show x8.drop (Int.toNat 0) = x8 from rfl]
  have insEnd:lwP e3 x8 0 = (x8.length:Int) → x8 ++ [(e3,e4,e5,false)] = insP (e3,e4,e5,false) x8:=fun h => by
   unfold insP
   rw [show lwP ((e3,e4,e5,false):Pm).1 x8 0 = lwP e3 x8 0 from rfl,h,Int.toNat_natCast,List.take_length,List.drop_length,List.append_nil]
  refine ⟨fun c1 => ?_,fun c1 => ?_⟩
  ·have d1:0 ≤ pIx x8 e3:=of_decide_eq_true c1
   have d2:(pIx x8 e3).toNat < x8.length:=by omega
   refine ⟨⟨p62,d1⟩,⟨fun c2 => bad 10 (by decide) (a1 (bneT c2)),fun c2 => ⟨fun c3 => bad 2 (by decide) (a2 (bneF c2) (of_decide_eq_true c3)),fun c3 => ⟨fun c4 => bad 2 (by decide) (a3 (bneF c2) (of_decide_eq_false c3) (of_decide_eq_true c4)),fun c4 => ⟨fun c5 => bad 2 (by decide) (a4 (bneF c2) (of_decide_eq_false c3) (of_decide_eq_false c4) (notT c5)),fun c5 => ⟨fun c6 => bad 2 (by decide) (a5 (bneF c2) (of_decide_eq_false c3) (of_decide_eq_false c4) (notF c5) (notT c6)),fun c6 => ?_⟩⟩⟩⟩⟩⟩
   have k6:=a6 (bneF c2) (of_decide_eq_false c3) (of_decide_eq_false c4) (notF c5) (notF c6)
   refine ⟨fun _ => ⟨d2,⟨fun c8 => bad 9 (by decide) ?_,fun c8 => ⟨fun _ => ⟨d2,?_⟩,fun c9 => (by cases c9)⟩⟩⟩,fun c7 => (by cases c7)⟩
   ·rw [k6,if_pos ⟨d1,c8⟩]
   ·have d8:¬ (gPm x8 (pIx x8 e3)).2.2.2 = true:=fun k => by
     rw [show (gPm x8 (pIx x8 e3)).2.2.2 = false from c8] at k; cases k
    have e:=k6.trans (if_neg (fun k => d8 k.2))
    exact fin 0 _ e (by unfold prmL; rw [if_pos e]; exact if_pos d1)
  ·have d1:¬ 0 ≤ pIx x8 e3:=of_decide_eq_false c1
   refine ⟨⟨p62,d1⟩,⟨fun c2 => bad 10 (by decide) (a1 (bneT c2)),fun c2 => ⟨fun c3 => bad 2 (by decide) (a2 (bneF c2) (of_decide_eq_true c3)),fun c3 => ⟨fun c4 => bad 2 (by decide) (a3 (bneF c2) (of_decide_eq_false c3) (of_decide_eq_true c4)),fun c4 => ⟨fun c5 => bad 2 (by decide) (a4 (bneF c2) (of_decide_eq_false c3) (of_decide_eq_false c4) (notT c5)),fun c5 => ⟨fun c6 => bad 2 (by decide) (a5 (bneF c2) (of_decide_eq_false c3) (of_decide_eq_false c4) (notF c5) (notT c6)),fun c6 => ?_⟩⟩⟩⟩⟩⟩
   have e:=(a6 (bneF c2) (of_decide_eq_false c3) (of_decide_eq_false c4) (notF c5) (notF c6)).trans (if_neg (fun k => d1 k.1))
   have pl:∀ l,l = insP (e3,e4,e5,false) x8 → prmL (x0,x1,x2,x3,x4,(x5,x6,x7),x8,x9) (e0,e1,e2,e3,e4,e5) = l:=fun l h => by
    rw [h]
    unfold prmL
    rw [if_pos e]
    exact if_neg d1
   refine ⟨fun c7 => (by cases c7),fun _ => ⟨fun c9 => (by cases c9),fun _ => ⟨hi0,⟨fun c10 => ⟨⟨of_decide_eq_true c10,rfl,hp'⟩,fin 0 _ e (pl _ (insEnd (of_decide_eq_true c10)))⟩,fun c10 => ⟨⟨by omega,?_,rfl,by omega⟩,fin 0 _ e (pl _ rfl)⟩⟩⟩⟩⟩
   have:=of_decide_eq_false c10
   omega)
end
end Go.MB
