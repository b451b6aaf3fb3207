/- A new permit, as the reference gives it; what it does at each kind. -/
import Derived.Test.YtfhomgggbhjglaaGreatMcB
namespace Go.MB
open Go Go.Sx Go.Proofs
set_option linter.unusedVariables false
set_option linter.unusedSimpArgs false
noncomputable section
def xZ:Lay:={ slots:=[(0,.ptr 1 0),(1,.agg jE)],boxes:=[(1,[.val tI,.val tI,.val tI,.val tI,.val tI,.row 47 tEl,.val gR,.val tI,.val gP,.val tI])],rb:=2000000 }
def L_rpw:Lay:={ slots:=[(0,.ptr 1 0),(3,.ptr 4112 0),(5,.ptr 6112 0),(6,.val tI)],boxes:=[(1,[.val tI,.val tI,.val tI,.val tI,.val tI,.row 47 (.pair tI tV),.val (.sl tIs),.val tI,.val (.sl (.pair tI (.pair tI (.pair tI .bool)))),.val tI]),(4112,[.val tI,.val tI,.val tI,.val tI,.val tI,.val tI]),(6112,[.val tI,.val tI,.val tI,.val .bool])] }
def L_rpw_0:Lay:={ slots:=[(0,.ptr 1 0),(5,.ptr 6112 0),(6,.val tI)],boxes:=[(1,[.val tI,.val tI,.val tI,.val tI,.val tI,.row 47 (.pair tI tV),.val (.sl tIs),.val tI,.val (.sl (.pair tI (.pair tI (.pair tI .bool)))),.val tI]),(6112,[.val tI,.val tI,.val tI,.val .bool])] }
def X_rpw:Exit->St->Option Lay
 |.exit 0,_=>some L_rpw_0
 |_,_=>none
abbrev C_rpw:Code:=jH (zJ Tryz.f103) 0
abbrev AcC1:Type:=Unit×Unit×Unit×Int×Int×Int×Int×Int×Int×List (Int×V)×List (List Int)×Int×List (Int×(Int×(Int×Bool)))×Int×Int×Int×Int×Int×Int×Int×Int×Int×Int×Bool×Unit
theorem B_rpw(i d c b f g:Int)(j:List (Int×V))(m:List (List Int))(p:Int)(a:List (Int×(Int×(Int×Bool))))(q e0 e1 e2 e3 e4 e5 op w u:Int)(o:Bool):zF (P:=P) [] (zH []) [] 112 (usd noU (xZ.ids++jC 2000000 xZ.shs)) (jI C_rpw) L_rpw X_rpw (α:=AcC1) (fun x=>x) (fun x=>x) ((),(),(),i,d,c,b,f,g,j,m,p,a,q,e0,e1,e2,e3,e4,e5,op,w,u,o,()) =
 Tree.cond (decide (i<(a.length:Int))) (.need (0<=i/\i<(a.length:Int)) (.cond (decide ((a.getD i.toNat (0,0,0,false)).1<e3)) (.leaf (Sum.inl ((),(),(),IntKind.i64.wrap (i+1),d,c,b,f,g,j,m,p,a,q,e0,e1,e2,e3,e4,e5,op,w,u,o,()))) (.leaf (Sum.inr (Exit.exit 0,Lay.st L_rpw_0 (usd noU (Lay.ids xZ++jC 2000000 (Lay.shs xZ))) ((),(),i,d,c,b,f,g,j,m,p,a,q,op,w,u,o,())))))) (.leaf (Sum.inr (Exit.exit 0,Lay.st L_rpw_0 (usd noU (Lay.ids xZ++jC 2000000 (Lay.shs xZ))) ((),(),i,d,c,b,f,g,j,m,p,a,q,op,w,u,o,())))):=by kernel_rfl
def inv_rpw:AcC1->Prop:=fun(_,_,_,i,_,_,_,_,_,_,_,_,a,_)=>0<=i/\i<=a.length/\a.length<=1000
def O_rpw:AcC1->Tree (Exit×St):=fun(_,_,_,i,d,c,b,f,g,j,m,p,a,q,_,_,_,e3,_,_,op,w,u,o,_)=>(.leaf (.exit 0,L_rpw_0.st (usd noU (xZ.ids++jC 2000000 xZ.shs)) ((),(),(lwP e3 (a.drop i.toNat) i),d,c,b,f,g,j,m,p,a,q,op,w,u,o,())))
def R_rpw:jS:=j_ 112 L_rpw (fun x=>x) inv_rpw O_rpw
theorem K_rpw:zU P [] 112 none (usd noU (xZ.ids++jC 2000000 xZ.shs)) C_rpw R_rpw:=by
 refine zT hm (cx:=[]) [] (xl:=X_rpw) (α:=AcC1) (fun x=>x) (fun(_,_,_,i,_,_,_,_,_,_,_,_,a,_)=>(a.length - i).toNat) (fun _=>rfl) (by kernel_rfl) (by kernel_rfl) ?_ (by kernel_rfl) trivial ?_
 ·intro e S L' h
  unfold X_rpw at h
  split at h<;>cases h<;>kernel_rfl
 ·rintro⟨⟨⟩,⟨⟩,⟨⟩,i,d,c,b,f,g,j,m,p,a,q,e0,e1,e2,e3,e4,e5,op,w,u,o,⟨⟩⟩ hinv Q hQ
  refine zD (B_rpw i d c b f g j m p a q e0 e1 e2 e3 e4 e5 op w u o) ?_
  obtain⟨h0,h1,h2⟩:=hinv
  rw[jZ (n:=i+1) (by omega) (by omega)]
  have hQ' : Q (.exit 0,L_rpw_0.st (usd noU (xZ.ids++jC 2000000 xZ.shs)) ((),(),lwP e3 (a.drop i.toNat) i,d,c,b,f,g,j,m,p,a,q,op,w,u,o,())):=hQ
  refine⟨fun c1=>?_,fun c1=>?_⟩
  ·have d1:=dcT c1
   rw[lwP_step h0 d1] at hQ'
   refine⟨⟨h0,d1⟩,⟨fun c2=>?_,fun c2=>?_⟩⟩
   ·rw[if_pos (dcT c2)] at hQ'
    exact⟨⟨⟨by omega,by omega,h2⟩,by show ((a.length:Int) - (i+1)).toNat<((a.length:Int) - i).toNat;omega⟩,hQ'⟩
   ·rw[if_neg (dcF c2)] at hQ'
    exact hQ'
  ·rw[jB (dcF c1),lwP] at hQ'
   exact hQ'
def L_rprB:Lay:={ slots:=[(0,.ptr 1 0),(1,.agg jE)],boxes:=[(1,[.val tI,.val tI,.val tI,.val tI,.val tI,.row 47 tEl,.val gR,.val tI,.val gP,.val tI])],rb:=2000000 }
theorem T_rprB(e0 e1 e2 e3 e4 e5:Int)(d c b f g:Int)(j:List E4)(m:List (List Int))(p:Int)(a:List Pm)(q:Int):jG (P:=P) [c_rcrewX.gc,c_rfindX.gc,wV.gc] (zH [(0,R_rpw)]) Tryz.f103 L_rprB true ((),(e0,e1,e2,e3,e4,e5),d,c,b,f,g,j,m,p,a,q,()) =
 Tree.cond (e2 != b) (.leaf { res:=.int .i64 10,boxes:=[[.int .i64 d,.int .i64 c,.int .i64 b,.int .i64 f,.int .i64 g,.own (nat_lit 100+0),.sl tIs m,.int .i64 p,.sl tPm a,.int .i64 q]],news:=[.row 47 tEl j] }) (.cond (decide (e3<0)) (.leaf { res:=.int .i64 2,boxes:=[[.int .i64 d,.int .i64 c,.int .i64 b,.int .i64 f,.int .i64 g,.own (nat_lit 100+0),.sl tIs m,.int .i64 p,.sl tPm a,.int .i64 q]],news:=[.row 47 tEl j] }) (.cond (decide (e3>=16)) (.leaf { res:=.int .i64 2,boxes:=[[.int .i64 d,.int .i64 c,.int .i64 b,.int .i64 f,.int .i64 g,.own (nat_lit 100+0),.sl tIs m,.int .i64 p,.sl tPm a,.int .i64 q]],news:=[.row 47 tEl j] }) (.cond (!vB c e4) (.leaf { res:=.int .i64 2,boxes:=[[.int .i64 d,.int .i64 c,.int .i64 b,.int .i64 f,.int .i64 g,.own (nat_lit 100+0),.sl tIs m,.int .i64 p,.sl tPm a,.int .i64 q]],news:=[.row 47 tEl j] }) (.cond (!wi e5 e0 2199023255552) (.leaf { res:=.int .i64 2,boxes:=[[.int .i64 d,.int .i64 c,.int .i64 b,.int .i64 f,.int .i64 g,.own (nat_lit 100+0),.sl tIs m,.int .i64 p,.sl tPm a,.int .i64 q]],news:=[.row 47 tEl j] }) (.need ((a.length:Int)<2 ^ 62) (.cond (decide (pIx a e3>=0)) (.need (0<=pIx a e3/\pIx a e3<(a.length:Int)) (.cond (List.getD a (Int.toNat (pIx a e3)) ((0:Int),(0:Int),(0:Int),false)).2.2.2 (.leaf { res:=.int .i64 9,boxes:=[[.int .i64 d,.int .i64 c,.int .i64 b,.int .i64 f,.int .i64 g,.own (nat_lit 100+0),.sl tIs m,.int .i64 p,.sl tPm a,.int .i64 q]],news:=[.row 47 tEl j] }) (.need (0<=pIx a e3/\pIx a e3<(a.length:Int)) (Tree.fail 2)))) (.need (inv_rpw ((),(),(),0,d,c,b,f,g,j,m,p,a,q,e0,e1,e2,e3,e4,e5,e3,e4,e5,false,())) (.need ((0:Int)<=0/\0<=lwP e3 (List.drop (Int.toNat 0) a) 0/\lwP e3 (List.drop (Int.toNat 0) a) 0<=(a.length:Int)) (.need ((0+List.length (List.drop (Int.toNat 0) (List.take (Int.toNat (lwP e3 (List.drop (Int.toNat 0) a) 0)) a)))*32<=140737488355328) (.need ((List.length (List.drop (Int.toNat 0) (List.take (Int.toNat (lwP e3 (List.drop (Int.toNat 0) a) 0)) a))+List.length [(e3,e4,e5,false)])*32<=140737488355328) (.need (0<=lwP e3 (List.drop (Int.toNat 0) a) 0/\lwP e3 (List.drop (Int.toNat 0) a) 0<=(a.length:Int)/\(a.length:Int)<=(a.length:Int)) (.need ((List.length (List.drop (Int.toNat 0) (List.take (Int.toNat (lwP e3 (List.drop (Int.toNat 0) a) 0)) a)++[(e3,e4,e5,false)])+List.length (List.drop (Int.toNat (lwP e3 (List.drop (Int.toNat 0) a) 0)) (List.take (Int.toNat (a.length:Int)) a)))*32<=140737488355328) (.leaf { res:=.int .i64 0,boxes:=[[.int .i64 d,.int .i64 c,.int .i64 b,.int .i64 f,.int .i64 g,.own (nat_lit 100+0),.sl tIs m,.int .i64 p,.sl (Ty.pair (Ty.int IntKind.i64) (Ty.pair (Ty.int IntKind.i64) (Ty.pair (Ty.int IntKind.i64) Ty.bool))) (List.drop (Int.toNat 0) (List.take (Int.toNat (lwP e3 (List.drop (Int.toNat 0) a) 0)) a)++[(e3,e4,e5,false)]++List.drop (Int.toNat (lwP e3 (List.drop (Int.toNat 0) a) 0)) (List.take (Int.toNat (a.length:Int)) a)),.int .i64 q]],news:=[.row 47 (Ty.pair tI tV) j] }))))))))))))):=by kernel_rfl
def c_rprB:MC P:=MC.of (α:=Unit×zN×Int×Int×Int×Int×Int×List E4×List (List Int)×Int×List Pm×Int×Unit) 103 L_rprB (fun x=>x) (fun x=>x) (fun _=>rfl)
 (fun(_,e,d,c,b,f,g,j,m,p,a,q,_)=>some (a.length<=1000/\(vM (d,c,b,f,g,(j,m,p),a,q) e=0/\pIx a e.2.2.2.1<0)))
 (fun(_,e,d,c,b,f,g,j,m,p,a,q,_)=>(⟨.int .i64 0,[[.int .i64 d,.int .i64 c,.int .i64 b,.int .i64 f,.int .i64 g,.own 100,.sl tIs m,.int .i64 p,.sl tPm (fN (pmN e) a),.int .i64 q]],[.row 47 tEl j]⟩:MOut)) (by kernel_rfl) (by kernel_rfl) (by kernel_rfl) (by
  rintro⟨⟨⟩,⟨e0,e1,e2,e3,e4,e5⟩,d,c,b,f,g,j,m,p,a,q,⟨⟩⟩ hp
  refine yG hm (own:=true) (by kernel_rfl) (by kernel_rfl) (by kernel_rfl) (T_rprB e0 e1 e2 e3 e4 e5 d c b f g j m p a q) ⟨K_rpw,trivial⟩ ?_
  obtain⟨p2,p3,p4⟩:a.length<=1000/\(vM (d,c,b,f,g,(j,m,p),a,q) (e0,e1,e2,e3,e4,e5)=0/\pIx a e3<0):=hp
  have no:∀n:Int,n≠0->vM (d,c,b,f,g,(j,m,p),a,q) (e0,e1,e2,e3,e4,e5)=n->False:=fun n h0 h=>h0 (h.symm.trans p3)
  have a1:e2≠b->vM (d,c,b,f,g,(j,m,p),a,q) (e0,e1,e2,e3,e4,e5)=10:=fun h=>by unfold vM;rw[if_pos h]
  have a2:e2=b->e3<0->vM (d,c,b,f,g,(j,m,p),a,q) (e0,e1,e2,e3,e4,e5)=2:=fun h1 h=>by unfold vM;rw[if_neg (fun k=>k h1),if_pos h]
  have a3:e2=b->¬ e3<0->e3>=16->vM (d,c,b,f,g,(j,m,p),a,q) (e0,e1,e2,e3,e4,e5)=2:=fun h1 h2 h=>by unfold vM;rw[if_neg (fun k=>k h1),if_neg h2,if_pos h]
  have a4:e2=b->¬ e3<0->¬ e3>=16->vB c e4=false->vM (d,c,b,f,g,(j,m,p),a,q) (e0,e1,e2,e3,e4,e5)=2:=fun h1 h2 h3 h=>by unfold vM;rw[if_neg (fun k=>k h1),if_neg h2,if_neg h3,if_pos h]
  have a5:e2=b->¬ e3<0->¬ e3>=16->vB c e4=true->wi e5 e0 2199023255552=false->vM (d,c,b,f,g,(j,m,p),a,q) (e0,e1,e2,e3,e4,e5)=2:=fun h1 h2 h3 h4 h=>by unfold vM;rw[if_neg (fun k=>k h1),if_neg h2,if_neg h3,if_neg (by rw[h4];decide),if_pos h]
  have a6:e2=b->¬ e3<0->¬ e3>=16->vB c e4=true->wi e5 e0 2199023255552=true->vM (d,c,b,f,g,(j,m,p),a,q) (e0,e1,e2,e3,e4,e5)=if 0<=pIx a e3/\(gPm a (pIx a e3)).2.2.2=true then 9 else 0:=fun h1 h2 h3 h4 h5=>by unfold vM;rw[if_neg (fun k=>k h1),if_neg h2,if_neg h3,if_neg (by rw[h4];decide),if_neg (by rw[h5];decide)];rfl
  have hlw:=lwP_rng e3 a 0
  rw[show a.drop (Int.toNat 0)=a from rfl]
  have ll:(List.drop (Int.toNat 0) (List.take (lwP e3 a 0).toNat a)).length<=a.length:=by
   rw[show List.drop (Int.toNat 0) (List.take (lwP e3 a 0).toNat a)=List.take (lwP e3 a 0).toNat a from rfl,List.length_take]
   omega
  have lr:(List.drop (lwP e3 a 0).toNat (List.take (a.length:Int).toNat a)).length<=a.length:=by
   rw[List.length_drop,List.length_take]
   omega
  refine⟨fun c1=>(no 10 (by decide) (a1 (zAi c1))).elim,fun c1=>⟨fun c2=>(no 2 (by decide) (a2 (wF c1) (dcT c2))).elim,fun c2=>⟨fun c3=>(no 2 (by decide) (a3 (wF c1) (dcF c2) (dcT c3))).elim,fun c3=>⟨fun c4=>(no 2 (by decide) (a4 (wF c1) (dcF c2) (dcF c3) (xP c4))).elim,fun c4=>⟨fun c5=>(no 2 (by decide) (a5 (wF c1) (dcF c2) (dcF c3) (qR c4) (xP c5))).elim,fun c5=>⟨by omega,⟨fun c6=>?_,fun c6=>⟨⟨by omega,by omega,p2⟩,⟨⟨by omega,by omega,by omega⟩,⟨by omega,⟨?_,⟨⟨by omega,by omega,by omega⟩,⟨?_,?_⟩⟩⟩⟩⟩⟩⟩⟩⟩⟩⟩⟩⟩
  ·have:=dcT c6
   omega
  ·rw[List.length_singleton];omega
  ·rw[List.length_append,List.length_singleton];omega
  ·have e:(List.drop (Int.toNat 0) (List.take (lwP e3 a 0).toNat a)++[(e3,e4,e5,false)])++List.drop (lwP e3 a 0).toNat (List.take (a.length:Int).toNat a)=fN (pmN (e0,e1,e2,e3,e4,e5)) a:=by
    unfold fN
    rw[Int.toNat_natCast,List.take_length]
    rfl
   exact congrArg (fun l:List Pm=>(⟨.int .i64 0,[[.int .i64 d,.int .i64 c,.int .i64 b,.int .i64 f,.int .i64 g,.own 100,.sl tIs m,.int .i64 p,.sl tPm l,.int .i64 q]],[.row 47 tEl j]⟩:MOut)) e)
def newP(s:zE)(e:zN):Prop:=wi e.1 0 1099511627776=true/\s.1<=e.1/\vB s.2.1 e.2.2.1=true/\e.2.1=8/\vM s e=0/\pIx s.2.2.2.2.2.2.1 e.2.2.2.1<0
instance (s:zE) (e:zN):Decidable (newP s e):=inferInstanceAs (Decidable (_/\_))
def dE(s:zE)(e:zN):Int:=if wi e.1 0 1099511627776=false then 2 else if e.1<s.1 then 11 else if vB s.2.1 e.2.2.1=false then 2 else if e.2.1<1\/e.2.1>10 then 4 else jJ s e
def dQ(s:zE)(e:zN):zE:=if wi e.1 0 1099511627776=false then s else if e.1<s.1 then s else if vB s.2.1 e.2.2.1=false then s else if e.2.1<1\/e.2.1>10 then s else yS s e
def L_rdoA:Lay:={ slots:=[(0,.ptr 1 0),(1,.agg jE)],boxes:=[(1,gJ)] }
theorem T_rdoA(e0 e1 e2 e3 e4 e5:Int)(o p q r u:Int)(f:List E4)(g:List (List Int))(j:Int)(b:List Pm)(v:Int):jG (P:=P) [wV.gc,c_rcrewX.gc,c_relem.gc,c_rcmd.gc,c_rop.gc,c_rprA.gc] (zH []) Tryz.f51 L_rdoA true ((),(e0,e1,e2,e3,e4,e5),o,p,q,r,u,f,g,j,b,v,()) =
 Tree.cond (!wi e0 0 1099511627776) (.leaf { res:=.int .i64 2,boxes:=[[.int .i64 o,.int .i64 p,.int .i64 q,.int .i64 r,.int .i64 u,.own 50,.sl tIs g,.int .i64 j,.own 51,.int .i64 v]],news:=[.row 47 tEl f,.row 49 tPm b]++[] }) (.cond (decide (e0<o)) (.leaf { res:=.int .i64 11,boxes:=[[.int .i64 o,.int .i64 p,.int .i64 q,.int .i64 r,.int .i64 u,.own 50,.sl tIs g,.int .i64 j,.own 51,.int .i64 v]],news:=[.row 47 tEl f,.row 49 tPm b]++[] }) (.cond (!vB p e2) (.leaf { res:=.int .i64 2,boxes:=[[.int .i64 o,.int .i64 p,.int .i64 q,.int .i64 r,.int .i64 u,.own 50,.sl tIs g,.int .i64 j,.own 51,.int .i64 v]],news:=[.row 47 tEl f,.row 49 tPm b]++[] }) (.cond (e1==1) (.need ((1<=e1/\e1<=4)/\zB (f,g,j)=0/\b.length<=1000) (.leaf { res:=.int .i64 (jJ (o,p,q,r,u,(f,g,j),b,v) (e0,e1,e2,e3,e4,e5)),boxes:=[[.int .i64 (zK (o,p,q,r,u,(f,g,j),b,v) (e0,e1,e2,e3,e4,e5)).1,.int .i64 (zK (o,p,q,r,u,(f,g,j),b,v) (e0,e1,e2,e3,e4,e5)).2.1,.int .i64 (zK (o,p,q,r,u,(f,g,j),b,v) (e0,e1,e2,e3,e4,e5)).2.2.1,.int .i64 (zK (o,p,q,r,u,(f,g,j),b,v) (e0,e1,e2,e3,e4,e5)).2.2.2.1,.int .i64 (zK (o,p,q,r,u,(f,g,j),b,v) (e0,e1,e2,e3,e4,e5)).2.2.2.2.1,.own 50,.sl tIs (zK (o,p,q,r,u,(f,g,j),b,v) (e0,e1,e2,e3,e4,e5)).2.2.2.2.2.1.2.1,.int .i64 (zK (o,p,q,r,u,(f,g,j),b,v) (e0,e1,e2,e3,e4,e5)).2.2.2.2.2.1.2.2,.own 51,.int .i64 (zK (o,p,q,r,u,(f,g,j),b,v) (e0,e1,e2,e3,e4,e5)).2.2.2.2.2.2.2]],news:=[.row 47 tEl (zK (o,p,q,r,u,(f,g,j),b,v) (e0,e1,e2,e3,e4,e5)).2.2.2.2.2.1.1,.row 49 tPm (zK (o,p,q,r,u,(f,g,j),b,v) (e0,e1,e2,e3,e4,e5)).2.2.2.2.2.2.1]++[] })) (.cond (e1==2) (.need ((1<=e1/\e1<=4)/\zB (f,g,j)=0/\b.length<=1000) (.leaf { res:=.int .i64 (jJ (o,p,q,r,u,(f,g,j),b,v) (e0,e1,e2,e3,e4,e5)),boxes:=[[.int .i64 (zK (o,p,q,r,u,(f,g,j),b,v) (e0,e1,e2,e3,e4,e5)).1,.int .i64 (zK (o,p,q,r,u,(f,g,j),b,v) (e0,e1,e2,e3,e4,e5)).2.1,.int .i64 (zK (o,p,q,r,u,(f,g,j),b,v) (e0,e1,e2,e3,e4,e5)).2.2.1,.int .i64 (zK (o,p,q,r,u,(f,g,j),b,v) (e0,e1,e2,e3,e4,e5)).2.2.2.1,.int .i64 (zK (o,p,q,r,u,(f,g,j),b,v) (e0,e1,e2,e3,e4,e5)).2.2.2.2.1,.own 50,.sl tIs (zK (o,p,q,r,u,(f,g,j),b,v) (e0,e1,e2,e3,e4,e5)).2.2.2.2.2.1.2.1,.int .i64 (zK (o,p,q,r,u,(f,g,j),b,v) (e0,e1,e2,e3,e4,e5)).2.2.2.2.2.1.2.2,.own 51,.int .i64 (zK (o,p,q,r,u,(f,g,j),b,v) (e0,e1,e2,e3,e4,e5)).2.2.2.2.2.2.2]],news:=[.row 47 tEl (zK (o,p,q,r,u,(f,g,j),b,v) (e0,e1,e2,e3,e4,e5)).2.2.2.2.2.1.1,.row 49 tPm (zK (o,p,q,r,u,(f,g,j),b,v) (e0,e1,e2,e3,e4,e5)).2.2.2.2.2.2.1]++[] })) (.cond (e1==3) (.need ((1<=e1/\e1<=4)/\zB (f,g,j)=0/\b.length<=1000) (.leaf { res:=.int .i64 (jJ (o,p,q,r,u,(f,g,j),b,v) (e0,e1,e2,e3,e4,e5)),boxes:=[[.int .i64 (zK (o,p,q,r,u,(f,g,j),b,v) (e0,e1,e2,e3,e4,e5)).1,.int .i64 (zK (o,p,q,r,u,(f,g,j),b,v) (e0,e1,e2,e3,e4,e5)).2.1,.int .i64 (zK (o,p,q,r,u,(f,g,j),b,v) (e0,e1,e2,e3,e4,e5)).2.2.1,.int .i64 (zK (o,p,q,r,u,(f,g,j),b,v) (e0,e1,e2,e3,e4,e5)).2.2.2.1,.int .i64 (zK (o,p,q,r,u,(f,g,j),b,v) (e0,e1,e2,e3,e4,e5)).2.2.2.2.1,.own 50,.sl tIs (zK (o,p,q,r,u,(f,g,j),b,v) (e0,e1,e2,e3,e4,e5)).2.2.2.2.2.1.2.1,.int .i64 (zK (o,p,q,r,u,(f,g,j),b,v) (e0,e1,e2,e3,e4,e5)).2.2.2.2.2.1.2.2,.own 51,.int .i64 (zK (o,p,q,r,u,(f,g,j),b,v) (e0,e1,e2,e3,e4,e5)).2.2.2.2.2.2.2]],news:=[.row 47 tEl (zK (o,p,q,r,u,(f,g,j),b,v) (e0,e1,e2,e3,e4,e5)).2.2.2.2.2.1.1,.row 49 tPm (zK (o,p,q,r,u,(f,g,j),b,v) (e0,e1,e2,e3,e4,e5)).2.2.2.2.2.2.1]++[] })) (.cond (e1==4) (.need ((1<=e1/\e1<=4)/\zB (f,g,j)=0/\b.length<=1000) (.leaf { res:=.int .i64 (jJ (o,p,q,r,u,(f,g,j),b,v) (e0,e1,e2,e3,e4,e5)),boxes:=[[.int .i64 (zK (o,p,q,r,u,(f,g,j),b,v) (e0,e1,e2,e3,e4,e5)).1,.int .i64 (zK (o,p,q,r,u,(f,g,j),b,v) (e0,e1,e2,e3,e4,e5)).2.1,.int .i64 (zK (o,p,q,r,u,(f,g,j),b,v) (e0,e1,e2,e3,e4,e5)).2.2.1,.int .i64 (zK (o,p,q,r,u,(f,g,j),b,v) (e0,e1,e2,e3,e4,e5)).2.2.2.1,.int .i64 (zK (o,p,q,r,u,(f,g,j),b,v) (e0,e1,e2,e3,e4,e5)).2.2.2.2.1,.own 50,.sl tIs (zK (o,p,q,r,u,(f,g,j),b,v) (e0,e1,e2,e3,e4,e5)).2.2.2.2.2.1.2.1,.int .i64 (zK (o,p,q,r,u,(f,g,j),b,v) (e0,e1,e2,e3,e4,e5)).2.2.2.2.2.1.2.2,.own 51,.int .i64 (zK (o,p,q,r,u,(f,g,j),b,v) (e0,e1,e2,e3,e4,e5)).2.2.2.2.2.2.2]],news:=[.row 47 tEl (zK (o,p,q,r,u,(f,g,j),b,v) (e0,e1,e2,e3,e4,e5)).2.2.2.2.2.1.1,.row 49 tPm (zK (o,p,q,r,u,(f,g,j),b,v) (e0,e1,e2,e3,e4,e5)).2.2.2.2.2.2.1]++[] })) (.cond (e1==5) (.need ((5<=e1/\e1<=7)/\zB (f,g,j)=0/\b.length<=1000) (.leaf { res:=.int .i64 (jJ (o,p,q,r,u,(f,g,j),b,v) (e0,e1,e2,e3,e4,e5)),boxes:=[[.int .i64 (yS (o,p,q,r,u,(f,g,j),b,v) (e0,e1,e2,e3,e4,e5)).1,.int .i64 (yS (o,p,q,r,u,(f,g,j),b,v) (e0,e1,e2,e3,e4,e5)).2.1,.int .i64 (yS (o,p,q,r,u,(f,g,j),b,v) (e0,e1,e2,e3,e4,e5)).2.2.1,.int .i64 (yS (o,p,q,r,u,(f,g,j),b,v) (e0,e1,e2,e3,e4,e5)).2.2.2.1,.int .i64 (yS (o,p,q,r,u,(f,g,j),b,v) (e0,e1,e2,e3,e4,e5)).2.2.2.2.1,.own 50,.sl tIs (yS (o,p,q,r,u,(f,g,j),b,v) (e0,e1,e2,e3,e4,e5)).2.2.2.2.2.1.2.1,.int .i64 (yS (o,p,q,r,u,(f,g,j),b,v) (e0,e1,e2,e3,e4,e5)).2.2.2.2.2.1.2.2,.own 51,.int .i64 (yS (o,p,q,r,u,(f,g,j),b,v) (e0,e1,e2,e3,e4,e5)).2.2.2.2.2.2.2]],news:=[.row 47 tEl (yS (o,p,q,r,u,(f,g,j),b,v) (e0,e1,e2,e3,e4,e5)).2.2.2.2.2.1.1,.row 49 tPm (yS (o,p,q,r,u,(f,g,j),b,v) (e0,e1,e2,e3,e4,e5)).2.2.2.2.2.2.1]++[] })) (.cond (e1==6) (.need ((5<=e1/\e1<=7)/\zB (f,g,j)=0/\b.length<=1000) (.leaf { res:=.int .i64 (jJ (o,p,q,r,u,(f,g,j),b,v) (e0,e1,e2,e3,e4,e5)),boxes:=[[.int .i64 (yS (o,p,q,r,u,(f,g,j),b,v) (e0,e1,e2,e3,e4,e5)).1,.int .i64 (yS (o,p,q,r,u,(f,g,j),b,v) (e0,e1,e2,e3,e4,e5)).2.1,.int .i64 (yS (o,p,q,r,u,(f,g,j),b,v) (e0,e1,e2,e3,e4,e5)).2.2.1,.int .i64 (yS (o,p,q,r,u,(f,g,j),b,v) (e0,e1,e2,e3,e4,e5)).2.2.2.1,.int .i64 (yS (o,p,q,r,u,(f,g,j),b,v) (e0,e1,e2,e3,e4,e5)).2.2.2.2.1,.own 50,.sl tIs (yS (o,p,q,r,u,(f,g,j),b,v) (e0,e1,e2,e3,e4,e5)).2.2.2.2.2.1.2.1,.int .i64 (yS (o,p,q,r,u,(f,g,j),b,v) (e0,e1,e2,e3,e4,e5)).2.2.2.2.2.1.2.2,.own 51,.int .i64 (yS (o,p,q,r,u,(f,g,j),b,v) (e0,e1,e2,e3,e4,e5)).2.2.2.2.2.2.2]],news:=[.row 47 tEl (yS (o,p,q,r,u,(f,g,j),b,v) (e0,e1,e2,e3,e4,e5)).2.2.2.2.2.1.1,.row 49 tPm (yS (o,p,q,r,u,(f,g,j),b,v) (e0,e1,e2,e3,e4,e5)).2.2.2.2.2.2.1]++[] })) (.cond (e1==7) (.need ((5<=e1/\e1<=7)/\zB (f,g,j)=0/\b.length<=1000) (.leaf { res:=.int .i64 (jJ (o,p,q,r,u,(f,g,j),b,v) (e0,e1,e2,e3,e4,e5)),boxes:=[[.int .i64 (yS (o,p,q,r,u,(f,g,j),b,v) (e0,e1,e2,e3,e4,e5)).1,.int .i64 (yS (o,p,q,r,u,(f,g,j),b,v) (e0,e1,e2,e3,e4,e5)).2.1,.int .i64 (yS (o,p,q,r,u,(f,g,j),b,v) (e0,e1,e2,e3,e4,e5)).2.2.1,.int .i64 (yS (o,p,q,r,u,(f,g,j),b,v) (e0,e1,e2,e3,e4,e5)).2.2.2.1,.int .i64 (yS (o,p,q,r,u,(f,g,j),b,v) (e0,e1,e2,e3,e4,e5)).2.2.2.2.1,.own 50,.sl tIs (yS (o,p,q,r,u,(f,g,j),b,v) (e0,e1,e2,e3,e4,e5)).2.2.2.2.2.1.2.1,.int .i64 (yS (o,p,q,r,u,(f,g,j),b,v) (e0,e1,e2,e3,e4,e5)).2.2.2.2.2.1.2.2,.own 51,.int .i64 (yS (o,p,q,r,u,(f,g,j),b,v) (e0,e1,e2,e3,e4,e5)).2.2.2.2.2.2.2]],news:=[.row 47 tEl (yS (o,p,q,r,u,(f,g,j),b,v) (e0,e1,e2,e3,e4,e5)).2.2.2.2.2.1.1,.row 49 tPm (yS (o,p,q,r,u,(f,g,j),b,v) (e0,e1,e2,e3,e4,e5)).2.2.2.2.2.2.1]++[] })) (.cond (e1==8) (.need (b.length<=1000/\¬(vM (o,p,q,r,u,(f,g,j),b,v) (e0,e1,e2,e3,e4,e5)=0/\pIx b e3<0)) (.leaf { res:=.int .i64 (vM (o,p,q,r,u,(f,g,j),b,v) (e0,e1,e2,e3,e4,e5)),boxes:=[[.int .i64 o,.int .i64 p,.int .i64 q,.int .i64 r,.int .i64 u,.own 50,.sl tIs g,.int .i64 j,.own 51,.int .i64 v]],news:=[.row 47 tEl f,.row 49 tPm (xH (o,p,q,r,u,(f,g,j),b,v) (e0,e1,e2,e3,e4,e5))]++[] })) (.cond (e1==9) (.need ((9<=e1/\e1<=10)/\zB (f,g,j)=0/\b.length<=1000) (.leaf { res:=.int .i64 (jJ (o,p,q,r,u,(f,g,j),b,v) (e0,e1,e2,e3,e4,e5)),boxes:=[[.int .i64 (zK (o,p,q,r,u,(f,g,j),b,v) (e0,e1,e2,e3,e4,e5)).1,.int .i64 (zK (o,p,q,r,u,(f,g,j),b,v) (e0,e1,e2,e3,e4,e5)).2.1,.int .i64 (zK (o,p,q,r,u,(f,g,j),b,v) (e0,e1,e2,e3,e4,e5)).2.2.1,.int .i64 (zK (o,p,q,r,u,(f,g,j),b,v) (e0,e1,e2,e3,e4,e5)).2.2.2.1,.int .i64 (zK (o,p,q,r,u,(f,g,j),b,v) (e0,e1,e2,e3,e4,e5)).2.2.2.2.1,.own 50,.sl tIs (zK (o,p,q,r,u,(f,g,j),b,v) (e0,e1,e2,e3,e4,e5)).2.2.2.2.2.1.2.1,.int .i64 (zK (o,p,q,r,u,(f,g,j),b,v) (e0,e1,e2,e3,e4,e5)).2.2.2.2.2.1.2.2,.own 51,.int .i64 (zK (o,p,q,r,u,(f,g,j),b,v) (e0,e1,e2,e3,e4,e5)).2.2.2.2.2.2.2]],news:=[.row 47 tEl (zK (o,p,q,r,u,(f,g,j),b,v) (e0,e1,e2,e3,e4,e5)).2.2.2.2.2.1.1,.row 49 tPm (zK (o,p,q,r,u,(f,g,j),b,v) (e0,e1,e2,e3,e4,e5)).2.2.2.2.2.2.1]++[] })) (.cond (e1==10) (.need ((9<=e1/\e1<=10)/\zB (f,g,j)=0/\b.length<=1000) (.leaf { res:=.int .i64 (jJ (o,p,q,r,u,(f,g,j),b,v) (e0,e1,e2,e3,e4,e5)),boxes:=[[.int .i64 (zK (o,p,q,r,u,(f,g,j),b,v) (e0,e1,e2,e3,e4,e5)).1,.int .i64 (zK (o,p,q,r,u,(f,g,j),b,v) (e0,e1,e2,e3,e4,e5)).2.1,.int .i64 (zK (o,p,q,r,u,(f,g,j),b,v) (e0,e1,e2,e3,e4,e5)).2.2.1,.int .i64 (zK (o,p,q,r,u,(f,g,j),b,v) (e0,e1,e2,e3,e4,e5)).2.2.2.1,.int .i64 (zK (o,p,q,r,u,(f,g,j),b,v) (e0,e1,e2,e3,e4,e5)).2.2.2.2.1,.own 50,.sl tIs (zK (o,p,q,r,u,(f,g,j),b,v) (e0,e1,e2,e3,e4,e5)).2.2.2.2.2.1.2.1,.int .i64 (zK (o,p,q,r,u,(f,g,j),b,v) (e0,e1,e2,e3,e4,e5)).2.2.2.2.2.1.2.2,.own 51,.int .i64 (zK (o,p,q,r,u,(f,g,j),b,v) (e0,e1,e2,e3,e4,e5)).2.2.2.2.2.2.2]],news:=[.row 47 tEl (zK (o,p,q,r,u,(f,g,j),b,v) (e0,e1,e2,e3,e4,e5)).2.2.2.2.2.1.1,.row 49 tPm (zK (o,p,q,r,u,(f,g,j),b,v) (e0,e1,e2,e3,e4,e5)).2.2.2.2.2.2.1]++[] })) (.leaf { res:=.int .i64 4,boxes:=[[.int .i64 o,.int .i64 p,.int .i64 q,.int .i64 r,.int .i64 u,.own 50,.sl tIs g,.int .i64 j,.own 51,.int .i64 v]],news:=[.row 47 tEl f,.row 49 tPm b]++[] }))))))))))))):=by kernel_rfl
abbrev AcD1:Type:=Unit×zN×Int×Int×Int×Int×Int×List E4×List (List Int)×Int×List Pm×Int×Unit
def c_rdoA:MC P:=MC.of (α:=AcD1) 51 L_rdoA (fun x=>x) (fun x=>x) (fun _=>rfl)
 (fun(_,e,o,p,q,r,u,f,g,j,b,v,_)=>some (zB (f,g,j)=0/\b.length<=1000/\¬ newP (o,p,q,r,u,(f,g,j),b,v) e))
 (fun(_,e,o,p,q,r,u,f,g,j,b,v,_)=>⟨.int .i64 (dE (o,p,q,r,u,(f,g,j),b,v) e),[zV (dQ (o,p,q,r,u,(f,g,j),b,v) e)],zW (dQ (o,p,q,r,u,(f,g,j),b,v) e)⟩) (by kernel_rfl) (by kernel_rfl) (by kernel_rfl) (by
  rintro⟨⟨⟩,⟨e0,e1,e2,e3,e4,e5⟩,o,p,q,r,u,f,g,j,b,v,⟨⟩⟩ hp
  refine yG hm (own:=true) (by kernel_rfl) (by kernel_rfl) (by kernel_rfl) (T_rdoA e0 e1 e2 e3 e4 e5 o p q r u f g j b v) trivial ?_
  obtain⟨p1,p2,hno⟩:zB (f,g,j)=0/\b.length<=1000/\¬ newP (o,p,q,r,u,(f,g,j),b,v) (e0,e1,e2,e3,e4,e5):=hp
  have fin:∀(m:Int)(t:zE),dE (o,p,q,r,u,(f,g,j),b,v) (e0,e1,e2,e3,e4,e5)=m->dQ (o,p,q,r,u,(f,g,j),b,v) (e0,e1,e2,e3,e4,e5)=t->(⟨.int .i64 m,[zV t],zW t⟩:MOut)=⟨.int .i64 (dE (o,p,q,r,u,(f,g,j),b,v) (e0,e1,e2,e3,e4,e5)),[zV (dQ (o,p,q,r,u,(f,g,j),b,v) (e0,e1,e2,e3,e4,e5))],zW (dQ (o,p,q,r,u,(f,g,j),b,v) (e0,e1,e2,e3,e4,e5))⟩:=fun m t h1 h2=>by rw[h1,h2]
  refine⟨fun c1=>fin 2 (o,p,q,r,u,(f,g,j),b,v) ?_ ?_,fun c1=>⟨fun c2=>fin 11 (o,p,q,r,u,(f,g,j),b,v) ?_ ?_,fun c2=>⟨fun c3=>fin 2 (o,p,q,r,u,(f,g,j),b,v) ?_ ?_,fun c3=>?_⟩⟩⟩
  ·unfold dE;exact if_pos (xP c1)
  ·unfold dQ;exact if_pos (xP c1)
  all_goals have d1:wi e0 0 1099511627776=true:=qR c1
  ·unfold dE;rw[if_neg (by rw[d1];decide)];exact if_pos (dcT c2)
  ·unfold dQ;rw[if_neg (by rw[d1];decide)];exact if_pos (dcT c2)
  all_goals have d2:¬ e0<o:=dcF c2
  ·unfold dE;rw[if_neg (by rw[d1];decide),if_neg d2];exact if_pos (xP c3)
  ·unfold dQ;rw[if_neg (by rw[d1];decide),if_neg d2];exact if_pos (xP c3)
  have d3:vB p e2=true:=qR c3
  have gE:dE (o,p,q,r,u,(f,g,j),b,v) (e0,e1,e2,e3,e4,e5)=if e1<1\/e1>10 then 4 else jJ (o,p,q,r,u,(f,g,j),b,v) (e0,e1,e2,e3,e4,e5):=by
   unfold dE
   rw[if_neg (by rw[d1];decide),if_neg d2,if_neg (by rw[d3];decide)]
  have gQ:dQ (o,p,q,r,u,(f,g,j),b,v) (e0,e1,e2,e3,e4,e5)=if e1<1\/e1>10 then (o,p,q,r,u,(f,g,j),b,v) else yS (o,p,q,r,u,(f,g,j),b,v) (e0,e1,e2,e3,e4,e5):=by
   unfold dQ
   rw[if_neg (by rw[d1];decide),if_neg d2,if_neg (by rw[d3];decide)]
  have k:1<=e1/\e1<=10->e1≠5->dE (o,p,q,r,u,(f,g,j),b,v) (e0,e1,e2,e3,e4,e5)=jJ (o,p,q,r,u,(f,g,j),b,v) (e0,e1,e2,e3,e4,e5)/\dQ (o,p,q,r,u,(f,g,j),b,v) (e0,e1,e2,e3,e4,e5)=zK (o,p,q,r,u,(f,g,j),b,v) (e0,e1,e2,e3,e4,e5):=fun h h5=>by
   rw[gE,gQ,if_neg (by omega),if_neg (by omega)]
   exact⟨rfl,if_neg h5⟩
  have kq:1<=e1/\e1<=10->dE (o,p,q,r,u,(f,g,j),b,v) (e0,e1,e2,e3,e4,e5)=jJ (o,p,q,r,u,(f,g,j),b,v) (e0,e1,e2,e3,e4,e5)/\dQ (o,p,q,r,u,(f,g,j),b,v) (e0,e1,e2,e3,e4,e5)=yS (o,p,q,r,u,(f,g,j),b,v) (e0,e1,e2,e3,e4,e5):=fun h=>by
   rw[gE,gQ,if_neg (by omega),if_neg (by omega)]
   exact⟨rfl,rfl⟩
  have k8:e1=8->jJ (o,p,q,r,u,(f,g,j),b,v) (e0,e1,e2,e3,e4,e5)=vM (o,p,q,r,u,(f,g,j),b,v) (e0,e1,e2,e3,e4,e5)/\zK (o,p,q,r,u,(f,g,j),b,v) (e0,e1,e2,e3,e4,e5)=kH (o,p,q,r,u,(f,g,j),b,v) (xH (o,p,q,r,u,(f,g,j),b,v) (e0,e1,e2,e3,e4,e5)):=fun h=>by subst h;exact⟨rfl,rfl⟩
  refine⟨fun c=>?_,fun c4=>⟨fun c=>?_,fun c5=>⟨fun c=>?_,fun c6=>⟨fun c=>?_,fun c7=>⟨fun c=>?_,fun c8=>⟨fun c=>?_,fun c9=>⟨fun c=>?_,fun c10=>⟨fun c=>?_,fun c11=>⟨fun c=>?_,fun c12=>⟨fun c=>?_,fun c13=>?_⟩⟩⟩⟩⟩⟩⟩⟩⟩⟩
  ·have d:=eq_of_beq c
   exact⟨⟨by omega,p1,p2⟩,fin (jJ (o,p,q,r,u,(f,g,j),b,v) (e0,e1,e2,e3,e4,e5)) (zK (o,p,q,r,u,(f,g,j),b,v) (e0,e1,e2,e3,e4,e5)) (k (by omega) (by omega)).1 (k (by omega) (by omega)).2⟩
  ·have d:=eq_of_beq c
   exact⟨⟨by omega,p1,p2⟩,fin (jJ (o,p,q,r,u,(f,g,j),b,v) (e0,e1,e2,e3,e4,e5)) (zK (o,p,q,r,u,(f,g,j),b,v) (e0,e1,e2,e3,e4,e5)) (k (by omega) (by omega)).1 (k (by omega) (by omega)).2⟩
  ·have d:=eq_of_beq c
   exact⟨⟨by omega,p1,p2⟩,fin (jJ (o,p,q,r,u,(f,g,j),b,v) (e0,e1,e2,e3,e4,e5)) (zK (o,p,q,r,u,(f,g,j),b,v) (e0,e1,e2,e3,e4,e5)) (k (by omega) (by omega)).1 (k (by omega) (by omega)).2⟩
  ·have d:=eq_of_beq c
   exact⟨⟨by omega,p1,p2⟩,fin (jJ (o,p,q,r,u,(f,g,j),b,v) (e0,e1,e2,e3,e4,e5)) (zK (o,p,q,r,u,(f,g,j),b,v) (e0,e1,e2,e3,e4,e5)) (k (by omega) (by omega)).1 (k (by omega) (by omega)).2⟩
  ·have d:=eq_of_beq c
   exact⟨⟨by omega,p1,p2⟩,fin (jJ (o,p,q,r,u,(f,g,j),b,v) (e0,e1,e2,e3,e4,e5)) (yS (o,p,q,r,u,(f,g,j),b,v) (e0,e1,e2,e3,e4,e5)) (kq (by omega)).1 (kq (by omega)).2⟩
  ·have d:=eq_of_beq c
   exact⟨⟨by omega,p1,p2⟩,fin (jJ (o,p,q,r,u,(f,g,j),b,v) (e0,e1,e2,e3,e4,e5)) (yS (o,p,q,r,u,(f,g,j),b,v) (e0,e1,e2,e3,e4,e5)) (kq (by omega)).1 (kq (by omega)).2⟩
  ·have d:=eq_of_beq c
   exact⟨⟨by omega,p1,p2⟩,fin (jJ (o,p,q,r,u,(f,g,j),b,v) (e0,e1,e2,e3,e4,e5)) (yS (o,p,q,r,u,(f,g,j),b,v) (e0,e1,e2,e3,e4,e5)) (kq (by omega)).1 (kq (by omega)).2⟩
  ·have d:=eq_of_beq c
   refine⟨⟨p2,fun h=>hno ⟨d1,by dsimp only;omega,d3,d,h⟩⟩,fin (vM (o,p,q,r,u,(f,g,j),b,v) (e0,e1,e2,e3,e4,e5)) (kH (o,p,q,r,u,(f,g,j),b,v) (xH (o,p,q,r,u,(f,g,j),b,v) (e0,e1,e2,e3,e4,e5))) ?_ ?_⟩
   ·exact (k (by omega) (by omega)).1.trans (k8 d).1
   ·exact (k (by omega) (by omega)).2.trans (k8 d).2
  ·have d:=eq_of_beq c
   exact⟨⟨by omega,p1,p2⟩,fin (jJ (o,p,q,r,u,(f,g,j),b,v) (e0,e1,e2,e3,e4,e5)) (zK (o,p,q,r,u,(f,g,j),b,v) (e0,e1,e2,e3,e4,e5)) (k (by omega) (by omega)).1 (k (by omega) (by omega)).2⟩
  ·have d:=eq_of_beq c
   exact⟨⟨by omega,p1,p2⟩,fin (jJ (o,p,q,r,u,(f,g,j),b,v) (e0,e1,e2,e3,e4,e5)) (zK (o,p,q,r,u,(f,g,j),b,v) (e0,e1,e2,e3,e4,e5)) (k (by omega) (by omega)).1 (k (by omega) (by omega)).2⟩
  ·have:=ne_of_beq_false c4;have:=ne_of_beq_false c5;have:=ne_of_beq_false c6;have:=ne_of_beq_false c7;have:=ne_of_beq_false c8
   have:=ne_of_beq_false c9;have:=ne_of_beq_false c10;have:=ne_of_beq_false c11;have:=ne_of_beq_false c12;have:=ne_of_beq_false c13
   have h:e1<1\/e1>10:=by omega
   exact fin 4 (o,p,q,r,u,(f,g,j),b,v) (gE.trans (if_pos h)) (gQ.trans (if_pos h)))
def L_rdoB:Lay:={ slots:=[(0,.ptr 1 0),(1,.agg jE)],boxes:=[(1,[.val tI,.val tI,.val tI,.val tI,.val tI,.row 47 tEl,.val gR,.val tI,.val gP,.val tI])],rb:=2000000 }
theorem T_rdoB(e0 e1 e2 e3 e4 e5:Int)(o p q r u:Int)(f:List E4)(g:List (List Int))(j:Int)(b:List Pm)(v:Int):jG (P:=P) [wV.gc,c_rcrewX.gc,c_rprB.gc] (zH []) Tryz.f51 L_rdoB true ((),(e0,e1,e2,e3,e4,e5),o,p,q,r,u,f,g,j,b,v,()) =
 Tree.cond (!wi e0 0 1099511627776) (.leaf { res:=.int .i64 2,boxes:=[[.int .i64 o,.int .i64 p,.int .i64 q,.int .i64 r,.int .i64 u,.own (nat_lit 100+0),.sl tIs g,.int .i64 j,.sl tPm b,.int .i64 v]],news:=[.row 47 tEl f] }) (.cond (decide (e0<o)) (.leaf { res:=.int .i64 11,boxes:=[[.int .i64 o,.int .i64 p,.int .i64 q,.int .i64 r,.int .i64 u,.own (nat_lit 100+0),.sl tIs g,.int .i64 j,.sl tPm b,.int .i64 v]],news:=[.row 47 tEl f] }) (.cond (!vB p e2) (.leaf { res:=.int .i64 2,boxes:=[[.int .i64 o,.int .i64 p,.int .i64 q,.int .i64 r,.int .i64 u,.own (nat_lit 100+0),.sl tIs g,.int .i64 j,.sl tPm b,.int .i64 v]],news:=[.row 47 tEl f] }) (.cond (e1==1) (Tree.fail 1032) (.cond (e1==2) (Tree.fail 1032) (.cond (e1==3) (Tree.fail 1032) (.cond (e1==4) (Tree.fail 1032) (.cond (e1==5) (Tree.fail 1039) (.cond (e1==6) (Tree.fail 1039) (.cond (e1==7) (Tree.fail 1039) (.cond (e1==8) (.need (b.length<=1000/\vM (o,p,q,r,u,(f,g,j),b,v) (e0,e1,e2,e3,e4,e5)=0/\pIx b e3<0) (.leaf { res:=.int .i64 0,boxes:=[[.int .i64 o,.int .i64 p,.int .i64 q,.int .i64 r,.int .i64 u,.own (nat_lit 100+0),.sl tIs g,.int .i64 j,.sl tPm (fN (pmN (e0,e1,e2,e3,e4,e5)) b),.int .i64 v]],news:=[.row 47 tEl f] })) (.cond (e1==9) (Tree.fail 1050) (.cond (e1==10) (Tree.fail 1050) (.leaf { res:=.int .i64 4,boxes:=[[.int .i64 o,.int .i64 p,.int .i64 q,.int .i64 r,.int .i64 u,.own (nat_lit 100+0),.sl tIs g,.int .i64 j,.sl tPm b,.int .i64 v]],news:=[.row 47 tEl f] }))))))))))))):=by kernel_rfl
def c_rdoB:MC P:=MC.of (α:=AcD1) 51 L_rdoB (fun x=>x) (fun x=>x) (fun _=>rfl)
 (fun(_,e,o,p,q,r,u,f,g,j,b,v,_)=>some (b.length<=1000/\newP (o,p,q,r,u,(f,g,j),b,v) e))
 (fun(_,e,o,p,q,r,u,f,g,j,b,v,_)=>(⟨.int .i64 0,[[.int .i64 o,.int .i64 p,.int .i64 q,.int .i64 r,.int .i64 u,.own 100,.sl tIs g,.int .i64 j,.sl tPm (fN (pmN e) b),.int .i64 v]],[.row 47 tEl f]⟩:MOut)) (by kernel_rfl) (by kernel_rfl) (by kernel_rfl) (by
  rintro⟨⟨⟩,⟨e0,e1,e2,e3,e4,e5⟩,o,p,q,r,u,f,g,j,b,v,⟨⟩⟩ hp
  refine yG hm (own:=true) (by kernel_rfl) (by kernel_rfl) (by kernel_rfl) (T_rdoB e0 e1 e2 e3 e4 e5 o p q r u f g j b v) trivial ?_
  obtain⟨p2,h1,h2,h3,h4,h5⟩:b.length<=1000/\newP (o,p,q,r,u,(f,g,j),b,v) (e0,e1,e2,e3,e4,e5):=hp
  dsimp only at h1 h2 h3 h4
  have ab:∀n:Int,n≠8->(e1==n)=true->False:=fun n h k=>h ((eq_of_beq k).symm.trans h4)
  refine⟨fun c1=>?_,fun c1=>⟨fun c2=>?_,fun c2=>⟨fun c3=>?_,fun c3=>⟨fun c=>(ab _ (by decide) c).elim,fun c4=>⟨fun c=>(ab _ (by decide) c).elim,fun c5=>⟨fun c=>(ab _ (by decide) c).elim,fun c6=>⟨fun c=>(ab _ (by decide) c).elim,fun c7=>⟨fun c=>(ab _ (by decide) c).elim,fun c8=>⟨fun c=>(ab _ (by decide) c).elim,fun c9=>⟨fun c=>(ab _ (by decide) c).elim,fun c10=>⟨fun c=>⟨⟨p2,h5⟩,rfl⟩,fun c11=>(ne_of_beq_false c11 h4).elim⟩⟩⟩⟩⟩⟩⟩⟩⟩⟩⟩
  ·rw[h1] at c1;cases c1
  ·have:=dcT c2;omega
  ·rw[h3] at c3;cases c3)
def sDone(args:List SV)(H:Hp):Option Bool:=match args with
 | [.ptr k _,.agg [.int _ e0,.int _ e1,.int _ e2,.int _ e3,.int _ e4,.int _ e5]]=>match H k with
  |some (.box [.int _ o,.int _ p,.int _ q,.int _ r,.int _ u,_,_,_,v8,_])=>match Sh.ext H (.row 49 tPm) v8 with
   |some l=>some (decide (newP (o,p,q,r,u,([],[],0),l,0) (e0,e1,e2,e3,e4,e5)))
   |none=>none
  |_=>none
 |_=>none
def c_rdone:GC P:=GC.split sDone c_rdoB.gc c_rdoA.gc (by kernel_rfl)
end
end Go.MB
