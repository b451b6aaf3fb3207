/- The entry that gives a permit. -/
import Derived.Test.YtfhomgggbhjglaaGreatMuT
namespace Go.MB
open Go Go.Sx Go.Proofs
set_option linter.unusedVariables false
set_option linter.unusedSimpArgs false
noncomputable section
def lwP(op:Int):List Pm->Int->Int
 | [],i=>i
 |p::r,i=>if p.1<op then lwP op r (i+1) else i
theorem lwP_rng(op:Int):∀(l:List Pm)(i:Int),i<=lwP op l i/\lwP op l i<=i+l.length
 | [],i=>by rw[lwP];simp
 |p::r,i=>by
  rw[lwP,List.length_cons]
  have:=lwP_rng op r (i+1)
  split<;>omega
theorem lwP_step{op:Int}{l:List Pm}{i:Int}(h0:0<=i) (h:i<l.length):lwP op (l.drop i.toNat) i=if (l.getD i.toNat (0,0,0,false)).1<op then lwP op (l.drop (i+1).toNat) (i+1) else i:=by
 rw[jK (0,0,0,false) h0 h,lwP]
def pmN(e:zN):Pm:=(e.2.2.2.1,e.2.2.2.2.1,e.2.2.2.2.2,false)
def fN(p:Pm)(l:List Pm):List Pm:=l.take (lwP p.1 l 0).toNat++[p]++l.drop (lwP p.1 l 0).toNat
def vM(s:zE)(e:zN):Int :=
 if e.2.2.1≠s.2.2.1 then 10 else if e.2.2.2.1<0 then 2 else if e.2.2.2.1>=16 then 2 else if vB s.2.1 e.2.2.2.2.1=false then 2 else if wi e.2.2.2.2.2 e.1 2199023255552=false then 2
 else if 0<=pIx s.2.2.2.2.2.2.1 e.2.2.2.1/\(pmT s e).2.2.2=true then 9 else 0
def xH(s:zE)(e:zN):List Pm:=if vM s e=0 then (if 0<=pIx s.2.2.2.2.2.2.1 e.2.2.2.1 then s.2.2.2.2.2.2.1.set (pIx s.2.2.2.2.2.2.1 e.2.2.2.1).toNat (pmN e) else fN (pmN e) s.2.2.2.2.2.2.1) else s.2.2.2.2.2.2.1
def wT:Lay:={ slots:=[(0,.ptr 1 0),(1,.agg jE)],boxes:=[(1,[.val tI,.val tI,.val tI,.val tI,.val tI,.row 47 tEl,.val gR,.val tI,.row 49 tPm,.val tI])],rb:=2000000 }
def L_allw:Lay:={ slots:=[(0,.ptr 1 0),(6,.ptr 7100 0),(7,.val tI)],boxes:=[(1,[.val tI,.val tI,.val tI,.val tI,.val tI,.row 47 (.pair tI tV),.val (.sl tIs),.val tI,.row 49 (.pair tI (.pair tI (.pair tI .bool))),.val tI]),(7100,[.val tI,.val tI,.val tI,.val .bool])] }
def L_allw_0:Lay:={ slots:=[(0,.ptr 1 0),(6,.ptr 7100 0),(7,.val tI)],boxes:=[(1,[.val tI,.val tI,.val tI,.val tI,.val tI,.row 47 (.pair tI tV),.val (.sl tIs),.val tI,.row 49 (.pair tI (.pair tI (.pair tI .bool))),.val tI]),(7100,[.val tI,.val tI,.val tI,.val .bool])] }
def X_allw:Exit->St->Option Lay
 |.exit 1,_=>some L_allw_0
 |_,_=>none
abbrev C_allw:Code:=jH (zJ Tryz.f141) 1
abbrev AuV1:Type:=Unit×Unit×Int×Int×Int×Int×Int×Int×List (Int×V)×List (List Int)×Int×List (Int×(Int×(Int×Bool)))×Int×Int×Int×Int×Bool×Unit
theorem B_allw(i f d c g j:Int)(q:List (Int×V))(t:List (List Int))(v:Int)(b:List (Int×(Int×(Int×Bool))))(y op w u:Int)(o:Bool):zF (P:=P) [] (zH []) [] 100 (usd noU (wT.ids++jC 2000000 wT.shs)) (jI C_allw) L_allw X_allw (α:=AuV1) (fun x=>x) (fun x=>x) ((),(),i,f,d,c,g,j,q,t,v,b,y,op,w,u,o,()) =
 Tree.cond (decide (i<(b.length:Int))) (.need (0<=i/\i<(b.length:Int)) (.need (Int.toNat i<b.length) (.cond (decide ((b.getD i.toNat (0,0,0,false)).1<op)) (.leaf (Sum.inl ((),(),IntKind.i64.wrap (i+1),f,d,c,g,j,q,t,v,b,y,op,w,u,o,()))) (.leaf (Sum.inr (Exit.exit 1,Lay.st L_allw_0 (usd noU (Lay.ids wT++jC 2000000 (Lay.shs wT))) ((),(),i,f,d,c,g,j,q,t,v,b,y,op,w,u,o,()))))))) (.leaf (Sum.inr (Exit.exit 1,Lay.st L_allw_0 (usd noU (Lay.ids wT++jC 2000000 (Lay.shs wT))) ((),(),i,f,d,c,g,j,q,t,v,b,y,op,w,u,o,())))):=by kernel_rfl
def inv_allw:AuV1->Prop:=fun(_,_,i,_,_,_,_,_,_,_,_,b,_)=>0<=i/\i<=b.length/\b.length<=1000
def O_allw:AuV1->Tree (Exit×St):=fun(_,_,i,f,d,c,g,j,q,t,v,b,y,op,w,u,o,_)=>(.leaf (.exit 1,L_allw_0.st (usd noU (wT.ids++jC 2000000 wT.shs)) ((),(),(lwP op (b.drop i.toNat) i),f,d,c,g,j,q,t,v,b,y,op,w,u,o,())))
def R_allw:jS:=j_ 100 L_allw (fun x=>x) inv_allw O_allw
theorem K_allw:zU P [] 100 none (usd noU (wT.ids++jC 2000000 wT.shs)) C_allw R_allw:=by
 refine zT hm (cx:=[]) [] (xl:=X_allw) (α:=AuV1) (fun x=>x) (fun(_,_,i,_,_,_,_,_,_,_,_,b,_)=>(b.length - i).toNat) (fun _=>rfl) (by kernel_rfl) (by kernel_rfl) ?_ (by kernel_rfl) trivial ?_
 ·intro e S L' h
  unfold X_allw at h
  split at h<;>cases h<;>kernel_rfl
 ·rintro⟨⟨⟩,⟨⟩,i,f,d,c,g,j,q,t,v,b,y,op,w,u,o,⟨⟩⟩ hinv Q hQ
  refine zD (B_allw i f d c g j q t v b y op w u o) ?_
  obtain⟨h0,h1,h2⟩:=hinv
  rw[jZ (n:=i+1) (by omega) (by omega)]
  have hQ' : Q (.exit 1,L_allw_0.st (usd noU (wT.ids++jC 2000000 wT.shs)) ((),(),lwP op (b.drop i.toNat) i,f,d,c,g,j,q,t,v,b,y,op,w,u,o,())):=hQ
  refine⟨fun c1=>?_,fun c1=>?_⟩
  ·have d1:=dcT c1
   rw[lwP_step h0 d1] at hQ'
   refine⟨⟨h0,d1⟩,⟨by omega,⟨fun c2=>?_,fun c2=>?_⟩⟩⟩
   ·rw[if_pos (dcT c2)] at hQ'
    exact⟨⟨⟨by omega,by omega,h2⟩,by show ((b.length:Int) - (i+1)).toNat<((b.length:Int) - i).toNat;omega⟩,hQ'⟩
   ·rw[if_neg (dcF c2)] at hQ'
    exact hQ'
  ·rw[jB (dcF c1),lwP] at hQ'
   exact hQ'
def L_allow:Lay:={ slots:=[(0,.ptr 1 0),(1,.agg jE)],boxes:=[(1,[.val tI,.val tI,.val tI,.val tI,.val tI,.row 47 tEl,.val gR,.val tI,.row 49 tPm,.val tI])],rb:=2000000 }
theorem T_allow(e0 e1 e2 e3 e4 e5:Int)(f d c g j:Int)(q:List E4)(t:List (List Int))(v:Int)(b:List Pm)(y:Int)(x1_:Nat)(hx1_:x1_=(Int.toNat (lwP e3 (List.drop (Int.toNat (0:Int)) b) (0:Int)))):jG (P:=P) [c_prm,c_memberX.gc,wE.gc,c_ins,c_flag] (zH [(1,R_allw)]) Tryz.f141 L_allow true ((),(e0,e1,e2,e3,e4,e5),f,d,c,g,j,q,t,v,b,y,()) =
 Tree.cond (decide (0<=pIx b e3)) (.need ((b.length:Int)<2 ^ 62/\0<=pIx b e3) (.cond (e2 != c) (.leaf { res:=.int .i64 10,boxes:=[[.int .i64 f,.int .i64 d,.int .i64 c,.int .i64 g,.int .i64 j,.own (nat_lit 100+0),.sl tIs t,.int .i64 v,.own (nat_lit 100+(0+1)),.int .i64 y]],news:=[.row 47 tEl q,.row 49 tPm b] }) (.cond (decide (e3<0)) (.leaf { res:=.int .i64 2,boxes:=[[.int .i64 f,.int .i64 d,.int .i64 c,.int .i64 g,.int .i64 j,.own (nat_lit 100+0),.sl tIs t,.int .i64 v,.own (nat_lit 100+(0+1)),.int .i64 y]],news:=[.row 47 tEl q,.row 49 tPm b] }) (.cond (decide (e3>=16)) (.leaf { res:=.int .i64 2,boxes:=[[.int .i64 f,.int .i64 d,.int .i64 c,.int .i64 g,.int .i64 j,.own (nat_lit 100+0),.sl tIs t,.int .i64 v,.own (nat_lit 100+(0+1)),.int .i64 y]],news:=[.row 47 tEl q,.row 49 tPm b] }) (.cond (!vB d e4) (.leaf { res:=.int .i64 2,boxes:=[[.int .i64 f,.int .i64 d,.int .i64 c,.int .i64 g,.int .i64 j,.own (nat_lit 100+0),.sl tIs t,.int .i64 v,.own (nat_lit 100+(0+1)),.int .i64 y]],news:=[.row 47 tEl q,.row 49 tPm b] }) (.cond (!wi e5 e0 2199023255552) (.leaf { res:=.int .i64 2,boxes:=[[.int .i64 f,.int .i64 d,.int .i64 c,.int .i64 g,.int .i64 j,.own (nat_lit 100+0),.sl tIs t,.int .i64 v,.own (nat_lit 100+(0+1)),.int .i64 y]],news:=[.row 47 tEl q,.row 49 tPm b] }) (.cond true (.need (Int.toNat (pIx b e3)<b.length) (.cond (List.getD b (Int.toNat (pIx b e3)) ((0:Int),(0:Int),(0:Int),false)).2.2.2 (.leaf { res:=.int .i64 9,boxes:=[[.int .i64 f,.int .i64 d,.int .i64 c,.int .i64 g,.int .i64 j,.own (nat_lit 100+0),.sl tIs t,.int .i64 v,.own (nat_lit 100+(0+1)),.int .i64 y]],news:=[.row 47 tEl q,.row 49 tPm b] }) (.cond true (.need (Int.toNat (pIx b e3)<b.length) (.leaf { res:=.int .i64 0,boxes:=[[.int .i64 f,.int .i64 d,.int .i64 c,.int .i64 g,.int .i64 j,.own (nat_lit 100+0),.sl tIs t,.int .i64 v,.own (nat_lit 100+(0+1)),.int .i64 y]],news:=[.row 47 tEl q,.row 49 tPm (List.set b (Int.toNat (pIx b e3)) (e3,e4,e5,false))] })) (.need (inv_allw ((),(),0,f,d,c,g,j,q,t,v,b,y,e3,e4,e5,false,())) (.cond (decide (lwP e3 (List.drop (Int.toNat 0) b) 0=(b.length:Int))) (.need (lwP e3 (List.drop (Int.toNat 0) b) 0=(b.length:Int)/\List.length [(e3,e4,e5,false)]=1/\b.length<=1000) (.leaf { res:=.int .i64 0,boxes:=[[.int .i64 f,.int .i64 d,.int .i64 c,.int .i64 g,.int .i64 j,.own (nat_lit 100+0),.sl tIs t,.int .i64 v,.own (nat_lit 100+(0+1)),.int .i64 y]],news:=[.row 47 (Ty.pair tI tV) q,.row 49 tPm (b++[(e3,e4,e5,false)])] })) (.need (0<=lwP e3 (List.drop (Int.toNat 0) b) 0/\lwP e3 (List.drop (Int.toNat 0) b) 0<(b.length:Int)/\List.length [(e3,e4,e5,false)]=1/\(b.length+1)*32<=140737488355328) (.leaf { res:=.int .i64 0,boxes:=[[.int .i64 f,.int .i64 d,.int .i64 c,.int .i64 g,.int .i64 j,.own (nat_lit 100+0),.sl tIs t,.int .i64 v,.own (nat_lit 100+(0+1)),.int .i64 y]],news:=[.row 47 (Ty.pair tI tV) q,.row 49 tPm (List.take x1_ b++[(e3,e4,e5,false)]++List.drop x1_ b)] }))))))) (.cond true (.need (Int.toNat (pIx b e3)<b.length) (.leaf { res:=.int .i64 0,boxes:=[[.int .i64 f,.int .i64 d,.int .i64 c,.int .i64 g,.int .i64 j,.own (nat_lit 100+0),.sl tIs t,.int .i64 v,.own (nat_lit 100+(0+1)),.int .i64 y]],news:=[.row 47 tEl q,.row 49 tPm (List.set b (Int.toNat (pIx b e3)) (e3,e4,e5,false))] })) (.need (inv_allw ((),(),0,f,d,c,g,j,q,t,v,b,y,e3,e4,e5,false,())) (.cond (decide (lwP e3 (List.drop (Int.toNat 0) b) 0=(b.length:Int))) (.need (lwP e3 (List.drop (Int.toNat 0) b) 0=(b.length:Int)/\List.length [(e3,e4,e5,false)]=1/\b.length<=1000) (.leaf { res:=.int .i64 0,boxes:=[[.int .i64 f,.int .i64 d,.int .i64 c,.int .i64 g,.int .i64 j,.own (nat_lit 100+0),.sl tIs t,.int .i64 v,.own (nat_lit 100+(0+1)),.int .i64 y]],news:=[.row 47 (Ty.pair tI tV) q,.row 49 tPm (b++[(e3,e4,e5,false)])] })) (.need (0<=lwP e3 (List.drop (Int.toNat 0) b) 0/\lwP e3 (List.drop (Int.toNat 0) b) 0<(b.length:Int)/\List.length [(e3,e4,e5,false)]=1/\(b.length+1)*32<=140737488355328) (.leaf { res:=.int .i64 0,boxes:=[[.int .i64 f,.int .i64 d,.int .i64 c,.int .i64 g,.int .i64 j,.own (nat_lit 100+0),.sl tIs t,.int .i64 v,.own (nat_lit 100+(0+1)),.int .i64 y]],news:=[.row 47 (Ty.pair tI tV) q,.row 49 tPm (List.take x1_ b++[(e3,e4,e5,false)]++List.drop x1_ b)] })))))))))))) (.need ((b.length:Int)<2 ^ 62/\¬0<=pIx b e3) (.cond (e2 != c) (.leaf { res:=.int .i64 10,boxes:=[[.int .i64 f,.int .i64 d,.int .i64 c,.int .i64 g,.int .i64 j,.own (nat_lit 100+0),.sl tIs t,.int .i64 v,.own (nat_lit 100+(0+1)),.int .i64 y]],news:=[.row 47 tEl q,.row 49 tPm b] }) (.cond (decide (e3<0)) (.leaf { res:=.int .i64 2,boxes:=[[.int .i64 f,.int .i64 d,.int .i64 c,.int .i64 g,.int .i64 j,.own (nat_lit 100+0),.sl tIs t,.int .i64 v,.own (nat_lit 100+(0+1)),.int .i64 y]],news:=[.row 47 tEl q,.row 49 tPm b] }) (.cond (decide (e3>=16)) (.leaf { res:=.int .i64 2,boxes:=[[.int .i64 f,.int .i64 d,.int .i64 c,.int .i64 g,.int .i64 j,.own (nat_lit 100+0),.sl tIs t,.int .i64 v,.own (nat_lit 100+(0+1)),.int .i64 y]],news:=[.row 47 tEl q,.row 49 tPm b] }) (.cond (!vB d e4) (.leaf { res:=.int .i64 2,boxes:=[[.int .i64 f,.int .i64 d,.int .i64 c,.int .i64 g,.int .i64 j,.own (nat_lit 100+0),.sl tIs t,.int .i64 v,.own (nat_lit 100+(0+1)),.int .i64 y]],news:=[.row 47 tEl q,.row 49 tPm b] }) (.cond (!wi e5 e0 2199023255552) (.leaf { res:=.int .i64 2,boxes:=[[.int .i64 f,.int .i64 d,.int .i64 c,.int .i64 g,.int .i64 j,.own (nat_lit 100+0),.sl tIs t,.int .i64 v,.own (nat_lit 100+(0+1)),.int .i64 y]],news:=[.row 47 tEl q,.row 49 tPm b] }) (.cond false (Tree.fail 1051) (.cond false (Tree.fail 1066) (.need (inv_allw ((),(),0,f,d,c,g,j,q,t,v,b,y,e3,e4,e5,false,())) (.cond (decide (lwP e3 (List.drop (Int.toNat 0) b) 0=(b.length:Int))) (.need (lwP e3 (List.drop (Int.toNat 0) b) 0=(b.length:Int)/\List.length [(e3,e4,e5,false)]=1/\b.length<=1000) (.leaf { res:=.int .i64 0,boxes:=[[.int .i64 f,.int .i64 d,.int .i64 c,.int .i64 g,.int .i64 j,.own (nat_lit 100+0),.sl tIs t,.int .i64 v,.own (nat_lit 100+(0+1)),.int .i64 y]],news:=[.row 47 (Ty.pair tI tV) q,.row 49 tPm (b++[(e3,e4,e5,false)])] })) (.need (0<=lwP e3 (List.drop (Int.toNat 0) b) 0/\lwP e3 (List.drop (Int.toNat 0) b) 0<(b.length:Int)/\List.length [(e3,e4,e5,false)]=1/\(b.length+1)*32<=140737488355328) (.leaf { res:=.int .i64 0,boxes:=[[.int .i64 f,.int .i64 d,.int .i64 c,.int .i64 g,.int .i64 j,.own (nat_lit 100+0),.sl tIs t,.int .i64 v,.own (nat_lit 100+(0+1)),.int .i64 y]],news:=[.row 47 (Ty.pair tI tV) q,.row 49 tPm (List.take x1_ b++[(e3,e4,e5,false)]++List.drop x1_ b)] })))))))))))):=by
 subst hx1_;kernel_rfl
def c_allow:MC P:=MC.of (α:=Unit×zN×Int×Int×Int×Int×Int×List E4×List (List Int)×Int×List Pm×Int×Unit) 141 L_allow (fun x=>x) (fun x=>x) (fun _=>rfl)
 (fun(_,_,_,_,_,_,_,_,_,_,b,_)=>some (b.length<=1000))
 (fun(_,e,f,d,c,g,j,q,t,v,b,y,_)=>(⟨.int .i64 (vM (f,d,c,g,j,(q,t,v),b,y) e),[[.int .i64 f,.int .i64 d,.int .i64 c,.int .i64 g,.int .i64 j,.own 100,.sl tIs t,.int .i64 v,.own 101,.int .i64 y]],[.row 47 tEl q,.row 49 tPm (xH (f,d,c,g,j,(q,t,v),b,y) e)]⟩:MOut)) (by kernel_rfl) (by kernel_rfl) (by kernel_rfl) (by
  rintro⟨⟨⟩,⟨e0,e1,e2,e3,e4,e5⟩,f,d,c,g,j,q,t,v,b,y,⟨⟩⟩ hp
  refine yG hm (own:=true) (by kernel_rfl) (by kernel_rfl) (by kernel_rfl) (T_allow e0 e1 e2 e3 e4 e5 f d c g j q t v b y _ rfl) ⟨K_allw,trivial⟩ ?_
  have hp' : b.length<=1000:=hp
  have p62:(b.length:Int)<2 ^ 62:=by omega
  have fin:∀(m:Int)(l:List Pm),vM (f,d,c,g,j,(q,t,v),b,y) (e0,e1,e2,e3,e4,e5)=m->xH (f,d,c,g,j,(q,t,v),b,y) (e0,e1,e2,e3,e4,e5)=l->(⟨.int .i64 m,[[.int .i64 f,.int .i64 d,.int .i64 c,.int .i64 g,.int .i64 j,.own 100,.sl tIs t,.int .i64 v,.own 101,.int .i64 y]],[.row 47 tEl q,.row 49 tPm (l)]⟩:MOut)=(⟨.int .i64 (vM (f,d,c,g,j,(q,t,v),b,y) (e0,e1,e2,e3,e4,e5)),[[.int .i64 f,.int .i64 d,.int .i64 c,.int .i64 g,.int .i64 j,.own 100,.sl tIs t,.int .i64 v,.own 101,.int .i64 y]],[.row 47 tEl q,.row 49 tPm (xH (f,d,c,g,j,(q,t,v),b,y) (e0,e1,e2,e3,e4,e5))]⟩:MOut):=fun m l h1 h2=>by rw[h1,h2]
  have bad:∀n:Int,n≠0->vM (f,d,c,g,j,(q,t,v),b,y) (e0,e1,e2,e3,e4,e5)=n->(⟨.int .i64 n,[[.int .i64 f,.int .i64 d,.int .i64 c,.int .i64 g,.int .i64 j,.own 100,.sl tIs t,.int .i64 v,.own 101,.int .i64 y]],[.row 47 tEl q,.row 49 tPm (b)]⟩:MOut)=(⟨.int .i64 (vM (f,d,c,g,j,(q,t,v),b,y) (e0,e1,e2,e3,e4,e5)),[[.int .i64 f,.int .i64 d,.int .i64 c,.int .i64 g,.int .i64 j,.own 100,.sl tIs t,.int .i64 v,.own 101,.int .i64 y]],[.row 47 tEl q,.row 49 tPm (xH (f,d,c,g,j,(q,t,v),b,y) (e0,e1,e2,e3,e4,e5))]⟩:MOut):=fun n h0 h=>fin n b h (by unfold xH;rw[h,if_neg h0])
  have hlt:pIx b e3<b.length:=ixS_ltL
  have a1:e2≠c->vM (f,d,c,g,j,(q,t,v),b,y) (e0,e1,e2,e3,e4,e5)=10:=fun h=>by unfold vM;rw[if_pos h]
  have a2:e2=c->e3<0->vM (f,d,c,g,j,(q,t,v),b,y) (e0,e1,e2,e3,e4,e5)=2:=fun h1 h=>by unfold vM;rw[if_neg (fun k=>k h1),if_pos h]
  have a3:e2=c->¬ e3<0->e3>=16->vM (f,d,c,g,j,(q,t,v),b,y) (e0,e1,e2,e3,e4,e5)=2:=fun h1 h2 h=>by unfold vM;rw[if_neg (fun k=>k h1),if_neg h2,if_pos h]
  have a4:e2=c->¬ e3<0->¬ e3>=16->vB d e4=false->vM (f,d,c,g,j,(q,t,v),b,y) (e0,e1,e2,e3,e4,e5)=2:=fun h1 h2 h3 h=>by unfold vM;rw[if_neg (fun k=>k h1),if_neg h2,if_neg h3,if_pos h]
  have a5:e2=c->¬ e3<0->¬ e3>=16->vB d e4=true->wi e5 e0 2199023255552=false->vM (f,d,c,g,j,(q,t,v),b,y) (e0,e1,e2,e3,e4,e5)=2:=fun h1 h2 h3 h4 h=>by unfold vM;rw[if_neg (fun k=>k h1),if_neg h2,if_neg h3,if_neg (by rw[h4];decide),if_pos h]
  have a6:e2=c->¬ e3<0->¬ e3>=16->vB d e4=true->wi e5 e0 2199023255552=true->vM (f,d,c,g,j,(q,t,v),b,y) (e0,e1,e2,e3,e4,e5)=if 0<=pIx b e3/\(gPm b (pIx b e3)).2.2.2=true then 9 else 0:=fun h1 h2 h3 h4 h5=>by unfold vM;rw[if_neg (fun k=>k h1),if_neg h2,if_neg h3,if_neg (by rw[h4];decide),if_neg (by rw[h5];decide)];rfl
  have hi0:inv_allw ((),(),0,f,d,c,g,j,q,t,v,b,y,e3,e4,e5,false,()):=⟨by decide,by omega,hp'⟩
  have hlw:=lwP_rng e3 b 0
  rw[show b.drop (Int.toNat 0)=b from rfl]
  have insEnd:lwP e3 b 0=(b.length:Int)->b++[(e3,e4,e5,false)]=fN (e3,e4,e5,false) b:=fun h=>by
   unfold fN
   rw[show lwP ((e3,e4,e5,false):Pm).1 b 0=lwP e3 b 0 from rfl,h,Int.toNat_natCast,List.take_length,List.drop_length,List.append_nil]
  refine⟨fun c1=>?_,fun c1=>?_⟩
  ·have d1:0<=pIx b e3:=dcT c1
   have d2:(pIx b e3).toNat<b.length:=by omega
   refine⟨⟨p62,d1⟩,⟨fun c2=>bad 10 (by decide) (a1 (zAi c2)),fun c2=>⟨fun c3=>bad 2 (by decide) (a2 (wF c2) (dcT c3)),fun c3=>⟨fun c4=>bad 2 (by decide) (a3 (wF c2) (dcF c3) (dcT c4)),fun c4=>⟨fun c5=>bad 2 (by decide) (a4 (wF c2) (dcF c3) (dcF c4) (xP c5)),fun c5=>⟨fun c6=>bad 2 (by decide) (a5 (wF c2) (dcF c3) (dcF c4) (qR c5) (xP c6)),fun c6=>?_⟩⟩⟩⟩⟩⟩
   have k6:=a6 (wF c2) (dcF c3) (dcF c4) (qR c5) (qR c6)
   refine⟨fun _=>⟨d2,⟨fun c8=>bad 9 (by decide) ?_,fun c8=>⟨fun _=>⟨d2,?_⟩,fun c9=>(by cases c9)⟩⟩⟩,fun c7=>(by cases c7)⟩
   ·rw[k6,if_pos ⟨d1,c8⟩]
   ·have d8:¬ (gPm b (pIx b e3)).2.2.2=true:=fun k=>by
     rw[show (gPm b (pIx b e3)).2.2.2=false from c8] at k;cases k
    have e:=k6.trans (if_neg (fun k=>d8 k.2))
    exact fin 0 _ e (by unfold xH;rw[if_pos e];exact if_pos d1)
  ·have d1:¬ 0<=pIx b e3:=dcF c1
   refine⟨⟨p62,d1⟩,⟨fun c2=>bad 10 (by decide) (a1 (zAi c2)),fun c2=>⟨fun c3=>bad 2 (by decide) (a2 (wF c2) (dcT c3)),fun c3=>⟨fun c4=>bad 2 (by decide) (a3 (wF c2) (dcF c3) (dcT c4)),fun c4=>⟨fun c5=>bad 2 (by decide) (a4 (wF c2) (dcF c3) (dcF c4) (xP c5)),fun c5=>⟨fun c6=>bad 2 (by decide) (a5 (wF c2) (dcF c3) (dcF c4) (qR c5) (xP c6)),fun c6=>?_⟩⟩⟩⟩⟩⟩
   have e:=(a6 (wF c2) (dcF c3) (dcF c4) (qR c5) (qR c6)).trans (if_neg (fun k=>d1 k.1))
   have pl:∀l,l=fN (e3,e4,e5,false) b->xH (f,d,c,g,j,(q,t,v),b,y) (e0,e1,e2,e3,e4,e5)=l:=fun l h=>by
    rw[h]
    unfold xH
    rw[if_pos e]
    exact if_neg d1
   refine⟨fun c7=>(by cases c7),fun _=>⟨fun c9=>(by cases c9),fun _=>⟨hi0,⟨fun c10=>⟨⟨dcT c10,rfl,hp'⟩,fin 0 _ e (pl _ (insEnd (dcT c10)))⟩,fun c10=>⟨⟨by omega,?_,rfl,by omega⟩,fin 0 _ e (pl _ rfl)⟩⟩⟩⟩⟩
   have:=dcF c10
   omega)
end
end Go.MB
