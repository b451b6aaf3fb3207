/- A new permit, as the reference gives it; what it does at each kind. -/
import Derived.Test.YtfhomgggbhjglaaGreatMcB
namespace Go.MB
open Go Go.Sx Go.Proofs
set_option linter.unusedVariables false
set_option linter.unusedSimpArgs false
noncomputable section
def L_rprB0:Lay:={ slots:=[(0,.ptr 1 0),(1,.agg tEntry)],boxes:=[(1,[.val tI,.val tI,.val tI,.val tI,.val tI,.row 47 tEl,.val tIss,.val tI,.val tPms,.val tI])],rb:=2000000 }
def L_rpw:Lay:={ slots:=[(0,.ptr 1 0),(3,.ptr 4112 0),(5,.ptr 6112 0),(6,.val tI)],boxes:=[(1,[.val tI,.val tI,.val tI,.val tI,.val tI,.row 47 (.pair tI tV),.val (.sl tIs),.val tI,.val (.sl (.pair tI (.pair tI (.pair tI .bool)))),.val tI]),(4112,[.val tI,.val tI,.val tI,.val tI,.val tI,.val tI]),(6112,[.val tI,.val tI,.val tI,.val .bool])] }
def L_rpw_0:Lay:={ slots:=[(0,.ptr 1 0),(5,.ptr 6112 0),(6,.val tI)],boxes:=[(1,[.val tI,.val tI,.val tI,.val tI,.val tI,.row 47 (.pair tI tV),.val (.sl tIs),.val tI,.val (.sl (.pair tI (.pair tI (.pair tI .bool)))),.val tI]),(6112,[.val tI,.val tI,.val tI,.val .bool])] }
def X_rpw:Exit->St->Option Lay
 |.exit 0,_=>some L_rpw_0
 |_,_=>none
abbrev C_rpw:Code:=zQ (zJ Tryz.f103) 0
abbrev AcC1:Type:=Unit×Unit×Unit×Int×Int×Int×Int×Int×Int×List (Int×V)×List (List Int)×Int×List (Int×(Int×(Int×Bool)))×Int×Int×Int×Int×Int×Int×Int×Int×Int×Int×Bool×Unit
theorem B_rpw(i d c b f g:Int)(j:List (Int×V))(m:List (List Int))(p:Int)(a:List (Int×(Int×(Int×Bool))))(q e0 e1 e2 e3 e4 e5 op w u:Int)(o:Bool):zG (P:=P) [] (zI []) [] 112 (usd noU (L_rprB0.ids++jL 2000000 L_rprB0.shs)) (zN C_rpw) L_rpw X_rpw (α:=AcC1) (fun x=>x) (fun x=>x) ((),(),(),i,d,c,b,f,g,j,m,p,a,q,e0,e1,e2,e3,e4,e5,op,w,u,o,()) =
 Tree.cond (decide (i<(a.length:Int))) (.need (0<=i/\i<(a.length:Int)) (.cond (decide ((a.getD i.toNat (0,0,0,false)).1<e3)) (.leaf (Sum.inl ((),(),(),IntKind.i64.wrap (i+1),d,c,b,f,g,j,m,p,a,q,e0,e1,e2,e3,e4,e5,op,w,u,o,()))) (.leaf (Sum.inr (Exit.exit 0,Lay.st L_rpw_0 (usd noU (Lay.ids L_rprB0++jL 2000000 (Lay.shs L_rprB0))) ((),(),i,d,c,b,f,g,j,m,p,a,q,op,w,u,o,())))))) (.leaf (Sum.inr (Exit.exit 0,Lay.st L_rpw_0 (usd noU (Lay.ids L_rprB0++jL 2000000 (Lay.shs L_rprB0))) ((),(),i,d,c,b,f,g,j,m,p,a,q,op,w,u,o,())))):=by kernel_rfl
def inv_rpw:AcC1->Prop:=fun(_,_,_,i,_,_,_,_,_,_,_,_,a,_)=>0<=i/\i<=a.length/\a.length<=1000
def O_rpw:AcC1->Tree (Exit×St):=fun(_,_,_,i,d,c,b,f,g,j,m,p,a,q,_,_,_,e3,_,_,op,w,u,o,_)=>(.leaf (.exit 0,L_rpw_0.st (usd noU (L_rprB0.ids++jL 2000000 L_rprB0.shs)) ((),(),(lwP e3 (a.drop i.toNat) i),d,c,b,f,g,j,m,p,a,q,op,w,u,o,())))
def R_rpw:jA:=zY 112 L_rpw (fun x=>x) inv_rpw O_rpw
theorem K_rpw:zL P [] 112 none (usd noU (L_rprB0.ids++jL 2000000 L_rprB0.shs)) C_rpw R_rpw:=by
 refine zM hm (cx:=[]) [] (xl:=X_rpw) (α:=AcC1) (fun x=>x) (fun(_,_,_,i,_,_,_,_,_,_,_,_,a,_)=>(a.length - i).toNat) (fun _=>rfl) (by kernel_rfl) (by kernel_rfl) ?_ (by kernel_rfl) trivial ?_
 ·intro e S L' h
  unfold X_rpw at h
  split at h<;>cases h<;>kernel_rfl
 ·rintro⟨⟨⟩,⟨⟩,⟨⟩,i,d,c,b,f,g,j,m,p,a,q,e0,e1,e2,e3,e4,e5,op,w,u,o,⟨⟩⟩ hinv Q hQ
  refine zF (B_rpw i d c b f g j m p a q e0 e1 e2 e3 e4 e5 op w u o) ?_
  obtain⟨h0,h1,h2⟩:=hinv
  rw[jK (n:=i+1) (by omega) (by omega)]
  have hQ' : Q (.exit 0,L_rpw_0.st (usd noU (L_rprB0.ids++jL 2000000 L_rprB0.shs)) ((),(),lwP e3 (a.drop i.toNat) i,d,c,b,f,g,j,m,p,a,q,op,w,u,o,())):=hQ
  refine⟨fun c1=>?_,fun c1=>?_⟩
  ·have d1:=dcT c1
   rw[lwP_step h0 d1] at hQ'
   refine⟨⟨h0,d1⟩,⟨fun c2=>?_,fun c2=>?_⟩⟩
   ·rw[if_pos (dcT c2)] at hQ'
    exact⟨⟨⟨by omega,by omega,h2⟩,by show ((a.length:Int) - (i+1)).toNat<((a.length:Int) - i).toNat;omega⟩,hQ'⟩
   ·rw[if_neg (dcF c2)] at hQ'
    exact hQ'
  ·rw[zR (dcF c1),lwP] at hQ'
   exact hQ'
def L_rprB:Lay:={ slots:=[(0,.ptr 1 0),(1,.agg tEntry)],boxes:=[(1,[.val tI,.val tI,.val tI,.val tI,.val tI,.row 47 tEl,.val tIss,.val tI,.val tPms,.val tI])],rb:=2000000 }
theorem T_rprB(e0 e1 e2 e3 e4 e5:Int)(d c b f g:Int)(j:List E4)(m:List (List Int))(p:Int)(a:List Pm)(q:Int):jF (P:=P) [c_rcrewX.gc,c_rfindX.gc,c_between.gc] (zI [(0,R_rpw)]) Tryz.f103 L_rprB true ((),(e0,e1,e2,e3,e4,e5),d,c,b,f,g,j,m,p,a,q,()) =
 Tree.cond (e2 != b) (.leaf { res:=.int .i64 10,boxes:=[[.int .i64 d,.int .i64 c,.int .i64 b,.int .i64 f,.int .i64 g,.own (nat_lit 100+0),.sl tIs m,.int .i64 p,.sl tPm a,.int .i64 q]],news:=[.row 47 tEl j] }) (.cond (decide (e3<0)) (.leaf { res:=.int .i64 2,boxes:=[[.int .i64 d,.int .i64 c,.int .i64 b,.int .i64 f,.int .i64 g,.own (nat_lit 100+0),.sl tIs m,.int .i64 p,.sl tPm a,.int .i64 q]],news:=[.row 47 tEl j] }) (.cond (decide (e3>=16)) (.leaf { res:=.int .i64 2,boxes:=[[.int .i64 d,.int .i64 c,.int .i64 b,.int .i64 f,.int .i64 g,.own (nat_lit 100+0),.sl tIs m,.int .i64 p,.sl tPm a,.int .i64 q]],news:=[.row 47 tEl j] }) (.cond (!memB c e4) (.leaf { res:=.int .i64 2,boxes:=[[.int .i64 d,.int .i64 c,.int .i64 b,.int .i64 f,.int .i64 g,.own (nat_lit 100+0),.sl tIs m,.int .i64 p,.sl tPm a,.int .i64 q]],news:=[.row 47 tEl j] }) (.cond (!wi e5 e0 2199023255552) (.leaf { res:=.int .i64 2,boxes:=[[.int .i64 d,.int .i64 c,.int .i64 b,.int .i64 f,.int .i64 g,.own (nat_lit 100+0),.sl tIs m,.int .i64 p,.sl tPm a,.int .i64 q]],news:=[.row 47 tEl j] }) (.need ((a.length:Int)<2 ^ 62) (.cond (decide (pIx a e3>=0)) (.need (0<=pIx a e3/\pIx a e3<(a.length:Int)) (.cond (List.getD a (Int.toNat (pIx a e3)) ((0:Int),(0:Int),(0:Int),false)).2.2.2 (.leaf { res:=.int .i64 9,boxes:=[[.int .i64 d,.int .i64 c,.int .i64 b,.int .i64 f,.int .i64 g,.own (nat_lit 100+0),.sl tIs m,.int .i64 p,.sl tPm a,.int .i64 q]],news:=[.row 47 tEl j] }) (.need (0<=pIx a e3/\pIx a e3<(a.length:Int)) (Tree.fail 2)))) (.need (inv_rpw ((),(),(),0,d,c,b,f,g,j,m,p,a,q,e0,e1,e2,e3,e4,e5,e3,e4,e5,false,())) (.need ((0:Int)<=0/\0<=lwP e3 (List.drop (Int.toNat 0) a) 0/\lwP e3 (List.drop (Int.toNat 0) a) 0<=(a.length:Int)) (.need ((0+List.length (List.drop (Int.toNat 0) (List.take (Int.toNat (lwP e3 (List.drop (Int.toNat 0) a) 0)) a)))*32<=140737488355328) (.need ((List.length (List.drop (Int.toNat 0) (List.take (Int.toNat (lwP e3 (List.drop (Int.toNat 0) a) 0)) a))+List.length [(e3,e4,e5,false)])*32<=140737488355328) (.need (0<=lwP e3 (List.drop (Int.toNat 0) a) 0/\lwP e3 (List.drop (Int.toNat 0) a) 0<=(a.length:Int)/\(a.length:Int)<=(a.length:Int)) (.need ((List.length (List.drop (Int.toNat 0) (List.take (Int.toNat (lwP e3 (List.drop (Int.toNat 0) a) 0)) a)++[(e3,e4,e5,false)])+List.length (List.drop (Int.toNat (lwP e3 (List.drop (Int.toNat 0) a) 0)) (List.take (Int.toNat (a.length:Int)) a)))*32<=140737488355328) (.leaf { res:=.int .i64 0,boxes:=[[.int .i64 d,.int .i64 c,.int .i64 b,.int .i64 f,.int .i64 g,.own (nat_lit 100+0),.sl tIs m,.int .i64 p,.sl (Ty.pair (Ty.int IntKind.i64) (Ty.pair (Ty.int IntKind.i64) (Ty.pair (Ty.int IntKind.i64) Ty.bool))) (List.drop (Int.toNat 0) (List.take (Int.toNat (lwP e3 (List.drop (Int.toNat 0) a) 0)) a)++[(e3,e4,e5,false)]++List.drop (Int.toNat (lwP e3 (List.drop (Int.toNat 0) a) 0)) (List.take (Int.toNat (a.length:Int)) a)),.int .i64 q]],news:=[.row 47 (Ty.pair tI tV) j] }))))))))))))):=by kernel_rfl
def c_rprB:MC P:=MC.of (α:=Unit×zP×Int×Int×Int×Int×Int×List E4×List (List Int)×Int×List Pm×Int×Unit) 103 L_rprB (fun x=>x) (fun x=>x) (fun _=>rfl)
 (fun(_,e,d,c,b,f,g,j,m,p,a,q,_)=>some (a.length<=1000/\(prmE (d,c,b,f,g,(j,m,p),a,q) e=0/\pIx a e.2.2.2.1<0)))
 (fun(_,e,d,c,b,f,g,j,m,p,a,q,_)=>(⟨.int .i64 0,[[.int .i64 d,.int .i64 c,.int .i64 b,.int .i64 f,.int .i64 g,.own 100,.sl tIs m,.int .i64 p,.sl tPm (insP (pmN e) a),.int .i64 q]],[.row 47 tEl j]⟩:MOut)) (by kernel_rfl) (by kernel_rfl) (by kernel_rfl) (by
  rintro⟨⟨⟩,⟨e0,e1,e2,e3,e4,e5⟩,d,c,b,f,g,j,m,p,a,q,⟨⟩⟩ hp
  refine m_of hm (own:=true) (by kernel_rfl) (by kernel_rfl) (by kernel_rfl) (T_rprB e0 e1 e2 e3 e4 e5 d c b f g j m p a q) ⟨K_rpw,trivial⟩ ?_
  obtain⟨p2,p3,p4⟩:a.length<=1000/\(prmE (d,c,b,f,g,(j,m,p),a,q) (e0,e1,e2,e3,e4,e5)=0/\pIx a e3<0):=hp
  have no:∀n:Int,n≠0->prmE (d,c,b,f,g,(j,m,p),a,q) (e0,e1,e2,e3,e4,e5)=n->False:=fun n h0 h=>h0 (h.symm.trans p3)
  have a1:e2≠b->prmE (d,c,b,f,g,(j,m,p),a,q) (e0,e1,e2,e3,e4,e5)=10:=fun h=>by unfold prmE;rw[if_pos h]
  have a2:e2=b->e3<0->prmE (d,c,b,f,g,(j,m,p),a,q) (e0,e1,e2,e3,e4,e5)=2:=fun h1 h=>by unfold prmE;rw[if_neg (fun k=>k h1),if_pos h]
  have a3:e2=b->¬ e3<0->e3>=16->prmE (d,c,b,f,g,(j,m,p),a,q) (e0,e1,e2,e3,e4,e5)=2:=fun h1 h2 h=>by unfold prmE;rw[if_neg (fun k=>k h1),if_neg h2,if_pos h]
  have a4:e2=b->¬ e3<0->¬ e3>=16->memB c e4=false->prmE (d,c,b,f,g,(j,m,p),a,q) (e0,e1,e2,e3,e4,e5)=2:=fun h1 h2 h3 h=>by unfold prmE;rw[if_neg (fun k=>k h1),if_neg h2,if_neg h3,if_pos h]
  have a5:e2=b->¬ e3<0->¬ e3>=16->memB c e4=true->wi e5 e0 2199023255552=false->prmE (d,c,b,f,g,(j,m,p),a,q) (e0,e1,e2,e3,e4,e5)=2:=fun h1 h2 h3 h4 h=>by unfold prmE;rw[if_neg (fun k=>k h1),if_neg h2,if_neg h3,if_neg (by rw[h4];decide),if_pos h]
  have a6:e2=b->¬ e3<0->¬ e3>=16->memB c e4=true->wi e5 e0 2199023255552=true->prmE (d,c,b,f,g,(j,m,p),a,q) (e0,e1,e2,e3,e4,e5)=if 0<=pIx a e3/\(gPm a (pIx a e3)).2.2.2=true then 9 else 0:=fun h1 h2 h3 h4 h5=>by unfold prmE;rw[if_neg (fun k=>k h1),if_neg h2,if_neg h3,if_neg (by rw[h4];decide),if_neg (by rw[h5];decide)];rfl
  have hlw:=lwP_rng e3 a 0
  rw[show a.drop (Int.toNat 0)=a from rfl]
  have ll:(List.drop (Int.toNat 0) (List.take (lwP e3 a 0).toNat a)).length<=a.length:=by
   rw[show List.drop (Int.toNat 0) (List.take (lwP e3 a 0).toNat a)=List.take (lwP e3 a 0).toNat a from rfl,List.length_take]
   omega
  have lr:(List.drop (lwP e3 a 0).toNat (List.take (a.length:Int).toNat a)).length<=a.length:=by
   rw[List.length_drop,List.length_take]
   omega
  refine⟨fun c1=>(no 10 (by decide) (a1 (bneT c1))).elim,fun c1=>⟨fun c2=>(no 2 (by decide) (a2 (bneF c1) (dcT c2))).elim,fun c2=>⟨fun c3=>(no 2 (by decide) (a3 (bneF c1) (dcF c2) (dcT c3))).elim,fun c3=>⟨fun c4=>(no 2 (by decide) (a4 (bneF c1) (dcF c2) (dcF c3) (notT c4))).elim,fun c4=>⟨fun c5=>(no 2 (by decide) (a5 (bneF c1) (dcF c2) (dcF c3) (notF c4) (notT c5))).elim,fun c5=>⟨by omega,⟨fun c6=>?_,fun c6=>⟨⟨by omega,by omega,p2⟩,⟨⟨by omega,by omega,by omega⟩,⟨by omega,⟨?_,⟨⟨by omega,by omega,by omega⟩,⟨?_,?_⟩⟩⟩⟩⟩⟩⟩⟩⟩⟩⟩⟩⟩
  ·have:=dcT c6
   omega
  ·rw[List.length_singleton];omega
  ·rw[List.length_append,List.length_singleton];omega
  ·have e:(List.drop (Int.toNat 0) (List.take (lwP e3 a 0).toNat a)++[(e3,e4,e5,false)])++List.drop (lwP e3 a 0).toNat (List.take (a.length:Int).toNat a)=insP (pmN (e0,e1,e2,e3,e4,e5)) a:=by
    unfold insP
    rw[Int.toNat_natCast,List.take_length]
    rfl
   exact congrArg (fun l:List Pm=>(⟨.int .i64 0,[[.int .i64 d,.int .i64 c,.int .i64 b,.int .i64 f,.int .i64 g,.own 100,.sl tIs m,.int .i64 p,.sl tPm l,.int .i64 q]],[.row 47 tEl j]⟩:MOut)) e)
end
end Go.MB
