/- Entries at a site of which the lists are rows of its own: elements and the command. -/
import Derived.Test.YtfhomgggbhjglaaGreatMuH
import Derived.Test.YtfhomgggbhjglaaGreatFw4
namespace Go.MB
open Go Go.Sx Go.Proofs
set_option linter.unusedVariables false
set_option linter.unusedSimpArgs false
noncomputable section
abbrev gJ:List Sh:=[.val tI,.val tI,.val tI,.val tI,.val tI,.rowk 50 47 tEl,.val gR,.val tI,.rowk 51 49 tPm,.val tI]
abbrev zV(s:zE):List SV:=[.int .i64 s.1,.int .i64 s.2.1,.int .i64 s.2.2.1,.int .i64 s.2.2.2.1,.int .i64 s.2.2.2.2.1,.own 50,.sl tIs s.2.2.2.2.2.1.2.1,.int .i64 s.2.2.2.2.2.1.2.2,.own 51,.int .i64 s.2.2.2.2.2.2.2]
abbrev zW(s:zE):List Ob:=[.row 47 tEl s.2.2.2.2.2.1.1,.row 49 tPm s.2.2.2.2.2.2.1]
def xQ(n:Nat)(a:Int):Prop:=0<=a/\a<n
instance (n:Nat) (a:Int):Decidable (xQ n a):=inferInstanceAs (Decidable (_/\_))
theorem wF{a b:Int}(h:(a != b)=false):a=b:=by simpa using h
theorem xP{b:Bool}(h:(!b)=true):b=false:=by simpa using h
theorem qR{b:Bool}(h:(!b)=false):b=true:=by simpa using h
def gEl(l:List E4)(a:Int):E4:=l.getD a.toNat (0,0,0,0)
def L_elemA:Lay:={ slots:=[(0,.ptr 1 0),(1,.agg jE)],boxes:=[(1,gJ)] }
theorem T_elemA(e0 e1 e2 e3 e4 e5:Int)(r t u v w:Int)(f:List E4)(g:List (List Int))(o:Int)(p:List Pm)(y:Int):jG (P:=P) [] (zH []) Tryz.f159 L_elemA true ((),(e0,e1,e2,e3,e4,e5),r,t,u,v,w,f,g,o,p,y,()) =
 Tree.cond (decide (e3<0)) (.leaf { res:=SV.nilp,boxes:=[[.int .i64 r,.int .i64 t,.int .i64 u,.int .i64 v,.int .i64 w,.own 50,.sl tIs g,.int .i64 o,.own 51,.int .i64 y]],news:=[.row 47 tEl f,.row 49 tPm p]++[] }) (.cond (decide (e3>=(f.length:Int))) (.leaf { res:=SV.nilp,boxes:=[[.int .i64 r,.int .i64 t,.int .i64 u,.int .i64 v,.int .i64 w,.own 50,.sl tIs g,.int .i64 o,.own 51,.int .i64 y]],news:=[.row 47 tEl f,.row 49 tPm p]++[] }) (.need (0<=e3/\e3<(f.length:Int)) (.leaf { res:=SV.oel 50 4 e3.toNat 0,boxes:=[[.int .i64 r,.int .i64 t,.int .i64 u,.int .i64 v,.int .i64 w,.own 50,.sl tIs g,.int .i64 o,.own 51,.int .i64 y]],news:=[.row 47 tEl f,.row 49 tPm p]++[] }))):=by kernel_rfl
abbrev AuR1:Type:=Unit×zN×Int×Int×Int×Int×Int×List E4×List (List Int)×Int×List Pm×Int×Unit
def c_elemA:MC P:=MC.of (α:=AuR1) 159 L_elemA (fun x=>x) (fun x=>x) (fun _=>rfl)
 (fun(_,e,_,_,_,_,_,f,_)=>some (xQ f.length e.2.2.2.1))
 (fun(_,e,r,t,u,v,w,f,g,o,p,y,_)=>⟨.oel 50 4 e.2.2.2.1.toNat 0,[zV (r,t,u,v,w,(f,g,o),p,y)],zW (r,t,u,v,w,(f,g,o),p,y)⟩) (by kernel_rfl) (by kernel_rfl) (by kernel_rfl) (by
  rintro⟨⟨⟩,⟨e0,e1,e2,e3,e4,e5⟩,r,t,u,v,w,f,g,o,p,y,⟨⟩⟩ hp
  refine yG hm (own:=true) (by kernel_rfl) (by kernel_rfl) (by kernel_rfl) (T_elemA e0 e1 e2 e3 e4 e5 r t u v w f g o p y) trivial ?_
  have h:0<=e3/\e3<(f.length:Int):=hp
  refine⟨fun c1=>?_,fun c1=>⟨fun c2=>?_,fun c2=>⟨h,rfl⟩⟩⟩
  ·have:=dcT c1;omega
  ·have:=dcT c2;omega)
def L_elemB:Lay:={ slots:=[(0,.ptr 1 0),(1,.agg jE)],boxes:=[(1,gJ)] }
theorem T_elemB(e0 e1 e2 e3 e4 e5:Int)(r t u v w:Int)(f:List E4)(g:List (List Int))(o:Int)(p:List Pm)(y:Int):jG (P:=P) [] (zH []) Tryz.f159 L_elemB true ((),(e0,e1,e2,e3,e4,e5),r,t,u,v,w,f,g,o,p,y,()) =
 Tree.cond (decide (e3<0)) (.leaf { res:=SV.nilp,boxes:=[[.int .i64 r,.int .i64 t,.int .i64 u,.int .i64 v,.int .i64 w,.own 50,.sl tIs g,.int .i64 o,.own 51,.int .i64 y]],news:=[.row 47 tEl f,.row 49 tPm p]++[] }) (.cond (decide (e3>=(f.length:Int))) (.leaf { res:=SV.nilp,boxes:=[[.int .i64 r,.int .i64 t,.int .i64 u,.int .i64 v,.int .i64 w,.own 50,.sl tIs g,.int .i64 o,.own 51,.int .i64 y]],news:=[.row 47 tEl f,.row 49 tPm p]++[] }) (.need (0<=e3/\e3<(f.length:Int)) (.leaf { res:=SV.oel 50 4 e3.toNat 0,boxes:=[[.int .i64 r,.int .i64 t,.int .i64 u,.int .i64 v,.int .i64 w,.own 50,.sl tIs g,.int .i64 o,.own 51,.int .i64 y]],news:=[.row 47 tEl f,.row 49 tPm p]++[] }))):=by kernel_rfl
def c_elemB:MC P:=MC.of (α:=AuR1) 159 L_elemB (fun x=>x) (fun x=>x) (fun _=>rfl)
 (fun(_,e,_,_,_,_,_,f,_)=>some (¬ xQ f.length e.2.2.2.1))
 (fun(_,_,r,t,u,v,w,f,g,o,p,y,_)=>⟨.nilp,[zV (r,t,u,v,w,(f,g,o),p,y)],zW (r,t,u,v,w,(f,g,o),p,y)⟩) (by kernel_rfl) (by kernel_rfl) (by kernel_rfl) (by
  rintro⟨⟨⟩,⟨e0,e1,e2,e3,e4,e5⟩,r,t,u,v,w,f,g,o,p,y,⟨⟩⟩ hp
  refine yG hm (own:=true) (by kernel_rfl) (by kernel_rfl) (by kernel_rfl) (T_elemB e0 e1 e2 e3 e4 e5 r t u v w f g o p y) trivial ?_
  have h:¬ (0<=e3/\e3<(f.length:Int)):=hp
  refine⟨fun c1=>rfl,fun c1=>⟨fun c2=>rfl,fun c2=>?_⟩⟩
  have d1:=dcF c1
  have d2:=dcF c2
  omega)
def sElem(args:List SV)(H:Hp):Option Bool:=match args with
 | [.ptr k _,.agg cs]=>match cs.getD 3 .any,H k with
  |.int _ a,some (.box bs)=>match bs.getD 5 .any with
   |.own j=>match H j with
    |some (.row _ _ l)=>some (decide (xQ l.length a))
    |_=>none
   |_=>none
  |_,_=>none
 |_=>none
def c_elem:GC P:=GC.split sElem c_elemA.gc c_elemB.gc (by kernel_rfl)
def alvB(x:E4):Bool:=x.1==1||x.1==2
theorem T_alive(a b c d:Int):jD (P:=P) [] (zH []) Tryz.f160 (z_ 0 [.adr tEl] ((a,b,c,d),())) =
 Tree.cond (a==1) (.leaf (.bool true)) (.leaf (.bool (a==2))):=by kernel_rfl
def c_alive:PC P:=PC.of (α:=E4×Unit) 160 [.adr tEl] (fun x=>x) (fun x=>x) (fun _=>rfl)
 (fun _=>none)
 (fun x=>.bool (alvB x.1)) (by kernel_rfl) (by
  rintro⟨⟨a,b,c,d⟩,⟨⟩⟩ hp
  refine yK hm (by kernel_rfl) (by kernel_rfl) (T_alive a b c d) trivial ?_
  refine⟨fun c1=>?_,fun c1=>?_⟩
  ·exact congrArg SV.bool (show _=alvB (a,b,c,d) by unfold alvB;rw[c1,Bool.true_or])
  ·exact congrArg SV.bool (show _=alvB (a,b,c,d) by unfold alvB;rw[c1,Bool.false_or]))
def c_aliveO:GC P:=oelGC 160 tEl (fun _=>True) (fun d=>.bool (alvB d)) (by kernel_rfl) (fun _=>rfl) (fun d _=>c_alive.ok (d,()) trivial)
def L_memberX:Lay:={ slots:=[(0,.agg (.pair tI (.pair tI (.pair tI (.pair tI (.pair tI (.pair (.pair (.sl (.pair tI tV)) (.pair (.sl tIs) tI)) (.pair (.sl (.pair tI (.pair tI (.pair tI .bool)))) tI)))))))),(1,.val tI)] }
theorem T_memberX(F z G I E:Int)(A:List (Int×V))(B:List (List Int))(C:Int)(D:List (Int×(Int×(Int×Bool))))(J who:Int):jG (P:=P) [] (zH []) Tryz.f55 L_memberX true ((F,(z,(G,(I,(E,((A,(B,C)),(D,J))))))),who,()) =
 Tree.cond (decide (who>=0)) (.leaf { res:=.bool (decide (who<z)),boxes:=[] }) (.leaf { res:=.bool false,boxes:=[] }):=by kernel_rfl
def c_memberX:XC P:=XC.of (α:=(Int×(Int×(Int×(Int×(Int×((List (Int×V)×(List (List Int)×Int))×(List (Int×(Int×(Int×Bool)))×Int)))))))×Int×Unit) 55 L_memberX (fun x=>x) (fun x=>x) (fun _=>rfl)
 (fun _=>none)
 (fun x=>⟨.bool (vB x.1.2.1 x.2.1),[],[]⟩) (by kernel_rfl) (by kernel_rfl) (by
  rintro⟨⟨F,⟨z,⟨G,⟨I,⟨E,⟨⟨A,⟨B,C⟩⟩,⟨D,J⟩⟩⟩⟩⟩⟩⟩,who,⟨⟩⟩ hp
  refine yG hm (own:=true) (by kernel_rfl) (by kernel_rfl) (by kernel_rfl) (T_memberX F z G I E A B C D J who) trivial ?_
  try dsimp only at hp
  try dsimp only
  have fin:∀b:Bool,b=vB z who->(⟨.bool b,[],[]⟩:MOut)=⟨.bool (vB z who),[],[]⟩:=fun b h=>by rw[h]
  refine⟨fun c1=>fin _ ?_,fun c1=>fin _ ?_⟩
  ·unfold vB;rw[c1,Bool.true_and]
  ·unfold vB;rw[c1,Bool.false_and])
def L_keepsX:Lay:={ slots:=[(0,.adr (.pair tI (.pair tI (.pair tI (.pair tI (.pair tI (.pair (.pair (.sl (.pair tI tV)) (.pair (.sl tIs) tI)) (.pair (.sl (.pair tI (.pair tI (.pair tI .bool)))) tI)))))))),(1,.val tI)] }
theorem T_keepsX(F z G I E:Int)(A:List (Int×V))(B:List (List Int))(C:Int)(D:List (Int×(Int×(Int×Bool))))(J tick:Int):jG (P:=P) [c_openS.gc,c_holds.gc] (zH []) Tryz.f100 L_keepsX true ((F,(z,(G,(I,(E,((A,(B,C)),(D,J))))))),tick,()) =
 Tree.need (D.length<=1000) (.cond (!wK (F,z,G,I,E,(A,B,C),D,J)) (.leaf { res:=.bool true,boxes:=[] }) (.need (zB (A,B,C)=0) (.leaf { res:=.bool (zQ (A,B,C) tick E),boxes:=[] }))):=by kernel_rfl
def c_keepsX:XC P:=XC.of (α:=(Int×(Int×(Int×(Int×(Int×((List (Int×V)×(List (List Int)×Int))×(List (Int×(Int×(Int×Bool)))×Int)))))))×Int×Unit) 100 L_keepsX (fun x=>x) (fun x=>x) (fun _=>rfl)
 (fun x=>some (zB x.1.2.2.2.2.2.1=0/\x.1.2.2.2.2.2.2.1.length<=1000))
 (fun x=>⟨.bool (jM x.1 x.2.1),[],[]⟩) (by kernel_rfl) (by kernel_rfl) (by
  rintro⟨⟨F,⟨z,⟨G,⟨I,⟨E,⟨⟨A,⟨B,C⟩⟩,⟨D,J⟩⟩⟩⟩⟩⟩⟩,tick,⟨⟩⟩ hp
  refine yG hm (own:=true) (by kernel_rfl) (by kernel_rfl) (by kernel_rfl) (T_keepsX F z G I E A B C D J tick) trivial ?_
  try dsimp only at hp
  try dsimp only
  obtain⟨h1,h2⟩:zB (A,B,C)=0/\D.length<=1000:=hp
  have fin:∀n:Bool,jM (F,z,G,I,E,(A,B,C),D,J) tick=n->(⟨SV.bool n,[],[]⟩:MOut)=⟨SV.bool (jM (F,z,G,I,E,(A,B,C),D,J) tick),[],[]⟩:=fun n h=>by rw[h]
  unfold jM at fin
  dsimp only at fin
  refine⟨h2,fun c1=>fin _ ?_,fun c1=>⟨h1,fin _ ?_⟩⟩
  ·rw[c1,Bool.true_or]
  ·rw[c1,Bool.false_or])
def setE(s:zE)(l:List E4):zE:=(s.1,s.2.1,s.2.2.1,s.2.2.2.1,s.2.2.2.2.1,(l,s.2.2.2.2.2.1.2.1,s.2.2.2.2.2.1.2.2),s.2.2.2.2.2.2.1,s.2.2.2.2.2.2.2)
def zAg(l:List E4)(a:Int):Int:=if ¬ xQ l.length a then 2 else if (gEl l a).1≠0/\(gEl l a).1≠3 then 10 else 0
def zAf(l:List E4)(a:Int):List E4:=if zAg l a=0 then l.set a.toNat (1,0,0,0) else l
def tstE(l:List E4)(e:zN):Int:=if ¬ xQ l.length e.2.2.2.1 then 2 else if wi e.2.2.2.2.2 1 68719476736=false then 2 else if e.2.2.2.2.1<1 then 2 else if e.2.2.2.2.1>16777216 then 2 else if alvB (gEl l e.2.2.2.1)=false then 10 else 0
def tstL(l:List E4)(e:zN):List E4:=if tstE l e=0 then l.set e.2.2.2.1.toNat (2,e.2.2.2.2.2,e.1,IntKind.i64.wrap (e.1+e.2.2.2.2.1)) else l
def falE(l:List E4)(a:Int):Int:=if ¬ xQ l.length a then 2 else if alvB (gEl l a)=false then 10 else 0
def falL(l:List E4)(a:Int):List E4:=if falE l a=0 then l.set a.toNat (3,(gEl l a).2.1,(gEl l a).2.2.1,(gEl l a).2.2.2) else l
def zAe(l:List E4)(a:Int):Int:=if ¬ xQ l.length a then 2 else if (gEl l a).1=0 then 10 else 0
def pU(l:List E4)(a:Int):List E4:=if zAe l a=0 then l.set a.toNat (0,0,0,0) else l
def remE(s:zE)(e:zN):Int:=if zAe s.2.2.2.2.2.1.1 e.2.2.2.1≠0 then zAe s.2.2.2.2.2.1.1 e.2.2.2.1 else if jM (setE s (pU s.2.2.2.2.2.1.1 e.2.2.2.1)) e.1=false then 15 else 0
def L_install:Lay:={ slots:=[(0,.ptr 1 0),(1,.agg jE)],boxes:=[(1,gJ)] }
theorem T_install(e0 e1 e2 e3 e4 e5:Int)(r t u v w:Int)(f:List E4)(g:List (List Int))(o:Int)(p:List Pm)(y:Int):jG (P:=P) [c_elem] (zH []) Tryz.f134 L_install true ((),(e0,e1,e2,e3,e4,e5),r,t,u,v,w,f,g,o,p,y,()) =
 Tree.cond (decide (xQ (f.length) e3)) (.need (xQ (f.length) e3) (.cond false (.leaf { res:=.int .i64 2,boxes:=[[.int .i64 r,.int .i64 t,.int .i64 u,.int .i64 v,.int .i64 w,.own 50,.sl tIs g,.int .i64 o,.own 51,.int .i64 y]],news:=[.row 47 tEl f,.row 49 tPm p]++[] }) (.need (Int.toNat e3<f.length) (.cond ((f.getD e3.toNat (0,0,0,0)).1 != 0) (.need (Int.toNat e3<f.length) (.cond ((f.getD e3.toNat (0,0,0,0)).1 != 3) (.leaf { res:=.int .i64 10,boxes:=[[.int .i64 r,.int .i64 t,.int .i64 u,.int .i64 v,.int .i64 w,.own 50,.sl tIs g,.int .i64 o,.own 51,.int .i64 y]],news:=[.row 47 tEl f,.row 49 tPm p]++[] }) (.need (Int.toNat e3<f.length) (.leaf { res:=.int .i64 0,boxes:=[[.int .i64 r,.int .i64 t,.int .i64 u,.int .i64 v,.int .i64 w,.own 50,.sl tIs g,.int .i64 o,.own 51,.int .i64 y]],news:=[.row 47 tEl (List.set f e3.toNat ((1:Int),(0:Int),(0:Int),(0:Int))),.row 49 tPm p]++[] })))) (.need (Int.toNat e3<f.length) (.leaf { res:=.int .i64 0,boxes:=[[.int .i64 r,.int .i64 t,.int .i64 u,.int .i64 v,.int .i64 w,.own 50,.sl tIs g,.int .i64 o,.own 51,.int .i64 y]],news:=[.row 47 tEl (List.set f e3.toNat ((1:Int),(0:Int),(0:Int),(0:Int))),.row 49 tPm p]++[] })))))) (.need (¬xQ (f.length) e3) (.cond true (.leaf { res:=.int .i64 2,boxes:=[[.int .i64 r,.int .i64 t,.int .i64 u,.int .i64 v,.int .i64 w,.own 50,.sl tIs g,.int .i64 o,.own 51,.int .i64 y]],news:=[.row 47 tEl f,.row 49 tPm p]++[] }) (Tree.fail 1014))):=by kernel_rfl
def c_install:MC P:=MC.of (α:=AuR1) 134 L_install (fun x=>x) (fun x=>x) (fun _=>rfl)
 (fun _=>none)
 (fun(_,e,r,t,u,v,w,f,g,o,p,y,_)=>⟨.int .i64 (zAg f e.2.2.2.1),[zV (r,t,u,v,w,(zAf f e.2.2.2.1,g,o),p,y)],zW (r,t,u,v,w,(zAf f e.2.2.2.1,g,o),p,y)⟩) (by kernel_rfl) (by kernel_rfl) (by kernel_rfl) (by
  rintro⟨⟨⟩,⟨e0,e1,e2,e3,e4,e5⟩,r,t,u,v,w,f,g,o,p,y,⟨⟩⟩ hp
  refine yG hm (own:=true) (by kernel_rfl) (by kernel_rfl) (by kernel_rfl) (T_install e0 e1 e2 e3 e4 e5 r t u v w f g o p y) trivial ?_
  have fin:∀(m:Int)(l:List E4),m=zAg f e3->l=zAf f e3->(⟨.int .i64 m,[zV (r,t,u,v,w,(l,g,o),p,y)],zW (r,t,u,v,w,(l,g,o),p,y)⟩:MOut)=⟨.int .i64 (zAg f e3),[zV (r,t,u,v,w,(zAf f e3,g,o),p,y)],zW (r,t,u,v,w,(zAf f e3,g,o),p,y)⟩:=fun m l h1 h2=>by rw[h1,h2]
  
  refine⟨fun c1=>?_,fun c1=>?_⟩
  ·have d1:xQ f.length e3:=dcT c1
   have d2:e3.toNat<f.length:=by have:=d1.1;have:=d1.2;omega
   refine⟨d1,⟨fun c2=>(by cases c2),fun c2=>⟨d2,⟨fun c3=>⟨d2,⟨fun c4=>?_,fun c4=>⟨d2,?_⟩⟩⟩,fun c3=>⟨d2,?_⟩⟩⟩⟩⟩
   ·have d3:(gEl f e3).1≠0:=bne_iff_ne.1 c3
    have d4:(gEl f e3).1≠3:=bne_iff_ne.1 c4
    have e:zAg f e3=10:=by unfold zAg;rw[if_neg (fun k=>k d1),if_pos ⟨d3,d4⟩]
    exact fin 10 f e.symm (by unfold zAf;rw[e,if_neg (by decide)])
   ·have d4:(gEl f e3).1=3:=wF c4
    have e:zAg f e3=0:=by unfold zAg;rw[if_neg (fun k=>k d1),if_neg (fun k=>k.2 d4)]
    exact fin 0 _ e.symm (by unfold zAf;rw[if_pos e];rfl)
   ·have d3:(gEl f e3).1=0:=wF c3
    have e:zAg f e3=0:=by unfold zAg;rw[if_neg (fun k=>k d1),if_neg (fun k=>k.1 d3)]
    exact fin 0 _ e.symm (by unfold zAf;rw[if_pos e];rfl)
  ·have d1:¬ xQ f.length e3:=dcF c1
   have e:zAg f e3=2:=by unfold zAg;rw[if_pos d1]
   exact⟨d1,⟨fun c5=>fin 2 f e.symm (by unfold zAf;rw[e,if_neg (by decide)]),fun c5=>(by cases c5)⟩⟩)
def L_test:Lay:={ slots:=[(0,.ptr 1 0),(1,.agg jE)],boxes:=[(1,gJ)] }
theorem T_test(e0 e1 e2 e3 e4 e5:Int)(r t u v w:Int)(f:List E4)(g:List (List Int))(o:Int)(p:List Pm)(y:Int):jG (P:=P) [c_elem,wE.gc,c_aliveO] (zH []) Tryz.f135 L_test true ((),(e0,e1,e2,e3,e4,e5),r,t,u,v,w,f,g,o,p,y,()) =
 Tree.cond (decide (xQ (f.length) e3)) (.need (xQ (f.length) e3) (.cond false (.leaf { res:=.int .i64 2,boxes:=[[.int .i64 r,.int .i64 t,.int .i64 u,.int .i64 v,.int .i64 w,.own 50,.sl tIs g,.int .i64 o,.own 51,.int .i64 y]],news:=[.row 47 tEl f,.row 49 tPm p]++[] }) (.cond (!wi e5 1 68719476736) (.leaf { res:=.int .i64 2,boxes:=[[.int .i64 r,.int .i64 t,.int .i64 u,.int .i64 v,.int .i64 w,.own 50,.sl tIs g,.int .i64 o,.own 51,.int .i64 y]],news:=[.row 47 tEl f,.row 49 tPm p]++[] }) (.cond (decide (e4<1)) (.leaf { res:=.int .i64 2,boxes:=[[.int .i64 r,.int .i64 t,.int .i64 u,.int .i64 v,.int .i64 w,.own 50,.sl tIs g,.int .i64 o,.own 51,.int .i64 y]],news:=[.row 47 tEl f,.row 49 tPm p]++[] }) (.cond (decide (e4>16777216)) (.leaf { res:=.int .i64 2,boxes:=[[.int .i64 r,.int .i64 t,.int .i64 u,.int .i64 v,.int .i64 w,.own 50,.sl tIs g,.int .i64 o,.own 51,.int .i64 y]],news:=[.row 47 tEl f,.row 49 tPm p]++[] }) (.need (Int.toNat e3<f.length/\True) (.cond (!alvB (f.getD e3.toNat (0,0,0,0))) (.leaf { res:=.int .i64 10,boxes:=[[.int .i64 r,.int .i64 t,.int .i64 u,.int .i64 v,.int .i64 w,.own 50,.sl tIs g,.int .i64 o,.own 51,.int .i64 y]],news:=[.row 47 tEl f,.row 49 tPm p]++[] }) (.need (Int.toNat e3<f.length) (.leaf { res:=.int .i64 0,boxes:=[[.int .i64 r,.int .i64 t,.int .i64 u,.int .i64 v,.int .i64 w,.own 50,.sl tIs g,.int .i64 o,.own 51,.int .i64 y]],news:=[.row 47 tEl (List.set f e3.toNat ((2:Int),e5,e0,IntKind.i64.wrap (e0+e4))),.row 49 tPm p]++[] }))))))))) (.need (¬xQ (f.length) e3) (.cond true (.leaf { res:=.int .i64 2,boxes:=[[.int .i64 r,.int .i64 t,.int .i64 u,.int .i64 v,.int .i64 w,.own 50,.sl tIs g,.int .i64 o,.own 51,.int .i64 y]],news:=[.row 47 tEl f,.row 49 tPm p]++[] }) (.cond (!wi e5 1 68719476736) (.leaf { res:=.int .i64 2,boxes:=[[.int .i64 r,.int .i64 t,.int .i64 u,.int .i64 v,.int .i64 w,.own 50,.sl tIs g,.int .i64 o,.own 51,.int .i64 y]],news:=[.row 47 tEl f,.row 49 tPm p]++[] }) (.cond (decide (e4<1)) (.leaf { res:=.int .i64 2,boxes:=[[.int .i64 r,.int .i64 t,.int .i64 u,.int .i64 v,.int .i64 w,.own 50,.sl tIs g,.int .i64 o,.own 51,.int .i64 y]],news:=[.row 47 tEl f,.row 49 tPm p]++[] }) (.cond (decide (e4>16777216)) (.leaf { res:=.int .i64 2,boxes:=[[.int .i64 r,.int .i64 t,.int .i64 u,.int .i64 v,.int .i64 w,.own 50,.sl tIs g,.int .i64 o,.own 51,.int .i64 y]],news:=[.row 47 tEl f,.row 49 tPm p]++[] }) (Tree.fail 1030)))))):=by kernel_rfl
def c_test:MC P:=MC.of (α:=AuR1) 135 L_test (fun x=>x) (fun x=>x) (fun _=>rfl)
 (fun _=>none)
 (fun(_,e,r,t,u,v,w,f,g,o,p,y,_)=>⟨.int .i64 (tstE f e),[zV (r,t,u,v,w,(tstL f e,g,o),p,y)],zW (r,t,u,v,w,(tstL f e,g,o),p,y)⟩) (by kernel_rfl) (by kernel_rfl) (by kernel_rfl) (by
  rintro⟨⟨⟩,⟨e0,e1,e2,e3,e4,e5⟩,r,t,u,v,w,f,g,o,p,y,⟨⟩⟩ hp
  refine yG hm (own:=true) (by kernel_rfl) (by kernel_rfl) (by kernel_rfl) (T_test e0 e1 e2 e3 e4 e5 r t u v w f g o p y) trivial ?_
  have fin:∀(m:Int)(l:List E4),m=tstE f (e0,e1,e2,e3,e4,e5)->l=tstL f (e0,e1,e2,e3,e4,e5)->(⟨.int .i64 m,[zV (r,t,u,v,w,(l,g,o),p,y)],zW (r,t,u,v,w,(l,g,o),p,y)⟩:MOut)=⟨.int .i64 (tstE f (e0,e1,e2,e3,e4,e5)),[zV (r,t,u,v,w,(tstL f (e0,e1,e2,e3,e4,e5),g,o),p,y)],zW (r,t,u,v,w,(tstL f (e0,e1,e2,e3,e4,e5),g,o),p,y)⟩:=fun m l h1 h2=>by rw[h1,h2]
  
  have bad:∀n:Int,n≠0->tstE f (e0,e1,e2,e3,e4,e5)=n->(⟨.int .i64 n,[zV (r,t,u,v,w,(f,g,o),p,y)],zW (r,t,u,v,w,(f,g,o),p,y)⟩:MOut)=_:=fun n h0 h=>fin n f h.symm (by unfold tstL;rw[h,if_neg h0])
  refine⟨fun c1=>?_,fun c1=>?_⟩
  ·have d1:xQ f.length e3:=dcT c1
   have d2:e3.toNat<f.length:=by have:=d1.1;have:=d1.2;omega
   have f1:∀n:Int,(if wi e5 1 68719476736=false then 2 else if e4<1 then 2 else if e4>16777216 then 2 else if alvB (gEl f e3)=false then 10 else 0)=n->tstE f (e0,e1,e2,e3,e4,e5)=n:=fun n h=>by unfold tstE;rw[if_neg (fun k=>k d1)];exact h
   refine⟨d1,⟨fun c2=>(by cases c2),fun _=>⟨fun c2=>bad _ (by decide) (f1 _ (if_pos (xP c2))),fun c2=>⟨fun c3=>bad _ (by decide) (f1 _ ?_),fun c3=>⟨fun c4=>bad _ (by decide) (f1 _ ?_),fun c4=>⟨⟨d2,trivial⟩,⟨fun c6=>bad _ (by decide) (f1 _ ?_),fun c6=>⟨d2,?_⟩⟩⟩⟩⟩⟩⟩⟩
   all_goals have q2:¬ wi e5 1 68719476736=false:=by rw[qR c2];decide
   ·rw[if_neg q2,if_pos (dcT c3)]
   ·rw[if_neg q2,if_neg (dcF c3),if_pos (dcT c4)]
   ·have d6:alvB (gEl f e3)=false:=xP c6
    rw[if_neg q2,if_neg (dcF c3),if_neg (dcF c4),if_pos d6]
   ·have d6:alvB (gEl f e3)=true:=qR c6
    have e:=f1 0 (by rw[if_neg q2,if_neg (dcF c3),if_neg (dcF c4),if_neg (by rw[d6];decide)])
    exact fin 0 _ e.symm (by unfold tstL;rw[if_pos e];rfl)
  ·have d1:¬ xQ f.length e3:=dcF c1
   have e:tstE f (e0,e1,e2,e3,e4,e5)=2:=by unfold tstE;rw[if_pos d1]
   exact⟨d1,⟨fun c7=>bad 2 (by decide) e,fun c7=>(by cases c7)⟩⟩)
def L_fail:Lay:={ slots:=[(0,.ptr 1 0),(1,.agg jE)],boxes:=[(1,gJ)] }
theorem T_fail(e0 e1 e2 e3 e4 e5:Int)(r t u v w:Int)(f:List E4)(g:List (List Int))(o:Int)(p:List Pm)(y:Int):jG (P:=P) [c_elem,c_aliveO] (zH []) Tryz.f136 L_fail true ((),(e0,e1,e2,e3,e4,e5),r,t,u,v,w,f,g,o,p,y,()) =
 Tree.cond (decide (xQ (f.length) e3)) (.need (xQ (f.length) e3) (.cond false (.leaf { res:=.int .i64 2,boxes:=[[.int .i64 r,.int .i64 t,.int .i64 u,.int .i64 v,.int .i64 w,.own 50,.sl tIs g,.int .i64 o,.own 51,.int .i64 y]],news:=[.row 47 tEl f,.row 49 tPm p]++[] }) (.need (Int.toNat e3<f.length/\True) (.cond (!alvB (f.getD e3.toNat (0,0,0,0))) (.leaf { res:=.int .i64 10,boxes:=[[.int .i64 r,.int .i64 t,.int .i64 u,.int .i64 v,.int .i64 w,.own 50,.sl tIs g,.int .i64 o,.own 51,.int .i64 y]],news:=[.row 47 tEl f,.row 49 tPm p]++[] }) (.need (Int.toNat e3<f.length) (.leaf { res:=.int .i64 0,boxes:=[[.int .i64 r,.int .i64 t,.int .i64 u,.int .i64 v,.int .i64 w,.own 50,.sl tIs g,.int .i64 o,.own 51,.int .i64 y]],news:=[.row 47 tEl (List.set f e3.toNat ((3:Int),(f.getD e3.toNat (0,0,0,0)).2)),.row 49 tPm p]++[] })))))) (.need (¬xQ (f.length) e3) (.cond true (.leaf { res:=.int .i64 2,boxes:=[[.int .i64 r,.int .i64 t,.int .i64 u,.int .i64 v,.int .i64 w,.own 50,.sl tIs g,.int .i64 o,.own 51,.int .i64 y]],news:=[.row 47 tEl f,.row 49 tPm p]++[] }) (Tree.fail 1014))):=by kernel_rfl
def c_fail:MC P:=MC.of (α:=AuR1) 136 L_fail (fun x=>x) (fun x=>x) (fun _=>rfl)
 (fun _=>none)
 (fun(_,e,r,t,u,v,w,f,g,o,p,y,_)=>⟨.int .i64 (falE f e.2.2.2.1),[zV (r,t,u,v,w,(falL f e.2.2.2.1,g,o),p,y)],zW (r,t,u,v,w,(falL f e.2.2.2.1,g,o),p,y)⟩) (by kernel_rfl) (by kernel_rfl) (by kernel_rfl) (by
  rintro⟨⟨⟩,⟨e0,e1,e2,e3,e4,e5⟩,r,t,u,v,w,f,g,o,p,y,⟨⟩⟩ hp
  refine yG hm (own:=true) (by kernel_rfl) (by kernel_rfl) (by kernel_rfl) (T_fail e0 e1 e2 e3 e4 e5 r t u v w f g o p y) trivial ?_
  have fin:∀(m:Int)(l:List E4),m=falE f e3->l=falL f e3->(⟨.int .i64 m,[zV (r,t,u,v,w,(l,g,o),p,y)],zW (r,t,u,v,w,(l,g,o),p,y)⟩:MOut)=⟨.int .i64 (falE f e3),[zV (r,t,u,v,w,(falL f e3,g,o),p,y)],zW (r,t,u,v,w,(falL f e3,g,o),p,y)⟩:=fun m l h1 h2=>by rw[h1,h2]
  
  refine⟨fun c1=>?_,fun c1=>?_⟩
  ·have d1:xQ f.length e3:=dcT c1
   have d2:e3.toNat<f.length:=by have:=d1.1;have:=d1.2;omega
   refine⟨d1,⟨fun c2=>(by cases c2),fun c2=>⟨⟨d2,trivial⟩,⟨fun c3=>?_,fun c3=>⟨d2,?_⟩⟩⟩⟩⟩
   ·have d3:alvB (gEl f e3)=false:=xP c3
    have e:falE f e3=10:=by unfold falE;rw[if_neg (fun k=>k d1),if_pos d3]
    exact fin 10 f e.symm (by unfold falL;rw[e,if_neg (by decide)])
   ·have d3:alvB (gEl f e3)=true:=qR c3
    have e:falE f e3=0:=by unfold falE;rw[if_neg (fun k=>k d1),if_neg (by rw[d3];decide)]
    exact fin 0 _ e.symm (by unfold falL;rw[if_pos e];rfl)
  ·have d1:¬ xQ f.length e3:=dcF c1
   have e:falE f e3=2:=by unfold falE;rw[if_pos d1]
   exact⟨d1,⟨fun c5=>fin 2 f e.symm (by unfold falL;rw[e,if_neg (by decide)]),fun c5=>(by cases c5)⟩⟩)
def L_remove:Lay:={ slots:=[(0,.ptr 1 0),(1,.agg jE)],boxes:=[(1,gJ)] }
theorem T_remove(e0 e1 e2 e3 e4 e5:Int)(r t u v w:Int)(f:List E4)(g:List (List Int))(o:Int)(p:List Pm)(y:Int):jG (P:=P) [c_elem,c_keepsX.gc] (zH []) Tryz.f137 L_remove true ((),(e0,e1,e2,e3,e4,e5),r,t,u,v,w,f,g,o,p,y,()) =
 Tree.cond (decide (xQ (f.length) e3)) (.need (xQ (f.length) e3) (.cond false (.leaf { res:=.int .i64 2,boxes:=[[.int .i64 r,.int .i64 t,.int .i64 u,.int .i64 v,.int .i64 w,.own 50,.sl tIs g,.int .i64 o,.own 51,.int .i64 y]],news:=[.row 47 tEl f,.row 49 tPm p]++[] }) (.need (Int.toNat e3<f.length) (.cond ((f.getD e3.toNat (0,0,0,0)).1==0) (.leaf { res:=.int .i64 10,boxes:=[[.int .i64 r,.int .i64 t,.int .i64 u,.int .i64 v,.int .i64 w,.own 50,.sl tIs g,.int .i64 o,.own 51,.int .i64 y]],news:=[.row 47 tEl f,.row 49 tPm p]++[] }) (.need (Int.toNat e3<f.length) (.need (zB (List.set f e3.toNat ((0:Int),(0:Int),(0:Int),(0:Int)),g,o)=0/\p.length<=1000) (.cond (!jM (r,t,u,v,w,(List.set f e3.toNat ((0:Int),(0:Int),(0:Int),(0:Int)),g,o),p,y) e0) (.leaf { res:=.int .i64 15,boxes:=[[.int .i64 r,.int .i64 t,.int .i64 u,.int .i64 v,.int .i64 w,.own 50,.sl tIs g,.int .i64 o,.own 51,.int .i64 y]],news:=[.row 47 tEl (List.set f e3.toNat ((0:Int),(0:Int),(0:Int),(0:Int))),.row 49 tPm p]++[] }) (.leaf { res:=.int .i64 0,boxes:=[[.int .i64 r,.int .i64 t,.int .i64 u,.int .i64 v,.int .i64 w,.own 50,.sl tIs g,.int .i64 o,.own 51,.int .i64 y]],news:=[.row 47 tEl (List.set f e3.toNat ((0:Int),(0:Int),(0:Int),(0:Int))),.row 49 tPm p]++[] })))))))) (.need (¬xQ (f.length) e3) (.cond true (.leaf { res:=.int .i64 2,boxes:=[[.int .i64 r,.int .i64 t,.int .i64 u,.int .i64 v,.int .i64 w,.own 50,.sl tIs g,.int .i64 o,.own 51,.int .i64 y]],news:=[.row 47 tEl f,.row 49 tPm p]++[] }) (Tree.fail 1014))):=by kernel_rfl
def c_remove:MC P:=MC.of (α:=AuR1) 137 L_remove (fun x=>x) (fun x=>x) (fun _=>rfl)
 (fun(_,e,_,_,_,_,_,f,g,o,p,_)=>some (zB (pU f e.2.2.2.1,g,o)=0/\p.length<=1000))
 (fun(_,e,r,t,u,v,w,f,g,o,p,y,_)=>⟨.int .i64 (remE (r,t,u,v,w,(f,g,o),p,y) e),[zV (r,t,u,v,w,(pU f e.2.2.2.1,g,o),p,y)],zW (r,t,u,v,w,(pU f e.2.2.2.1,g,o),p,y)⟩) (by kernel_rfl) (by kernel_rfl) (by kernel_rfl) (by
  rintro⟨⟨⟩,⟨e0,e1,e2,e3,e4,e5⟩,r,t,u,v,w,f,g,o,p,y,⟨⟩⟩ hp
  refine yG hm (own:=true) (by kernel_rfl) (by kernel_rfl) (by kernel_rfl) (T_remove e0 e1 e2 e3 e4 e5 r t u v w f g o p y) trivial ?_
  have fin:∀(m:Int)(l:List E4),m=remE (r,t,u,v,w,(f,g,o),p,y) (e0,e1,e2,e3,e4,e5)->l=pU f e3->(⟨.int .i64 m,[zV (r,t,u,v,w,(l,g,o),p,y)],zW (r,t,u,v,w,(l,g,o),p,y)⟩:MOut)=⟨.int .i64 (remE (r,t,u,v,w,(f,g,o),p,y) (e0,e1,e2,e3,e4,e5)),[zV (r,t,u,v,w,(pU f e3,g,o),p,y)],zW (r,t,u,v,w,(pU f e3,g,o),p,y)⟩:=fun m l h1 h2=>by rw[h1,h2]
  
  obtain⟨p1,p2⟩:zB (pU f e3,g,o)=0/\p.length<=1000:=hp
  refine⟨fun c1=>?_,fun c1=>?_⟩
  ·have d1:xQ f.length e3:=dcT c1
   have d2:e3.toNat<f.length:=by have:=d1.1;have:=d1.2;omega
   have key:(gEl f e3).1≠0->zAe f e3=0/\pU f e3=f.set e3.toNat (0,0,0,0):=fun h=>by
    have q:zAe f e3=0:=by unfold zAe;rw[if_neg (fun k=>k d1),if_neg h]
    exact⟨q,by unfold pU;rw[if_pos q]⟩
   refine⟨d1,⟨fun c2=>(by cases c2),fun c2=>⟨d2,⟨fun c3=>?_,fun c3=>?_⟩⟩⟩⟩
   ·have d3:(gEl f e3).1=0:=eq_of_beq c3
    have q:zAe f e3=10:=by unfold zAe;rw[if_neg (fun k=>k d1),if_pos d3]
    have e:remE (r,t,u,v,w,(f,g,o),p,y) (e0,e1,e2,e3,e4,e5)=10:=by unfold remE;rw[if_pos (by rw[q];decide)];exact q
    exact fin 10 f e.symm (by unfold pU;rw[q,if_neg (by decide)])
   ·have d3:(gEl f e3).1≠0:=ne_of_beq_false c3
    obtain⟨q1,q2⟩:=key d3
    rw[q2] at p1
    refine⟨d2,⟨⟨p1,p2⟩,⟨fun c4=>?_,fun c4=>?_⟩⟩⟩
    ·have d4:jM (r,t,u,v,w,(f.set e3.toNat (0,0,0,0),g,o),p,y) e0=false:=by simpa using c4
     have e:remE (r,t,u,v,w,(f,g,o),p,y) (e0,e1,e2,e3,e4,e5)=15:=by
      unfold remE
      rw[if_neg (fun k=>k q1),if_pos]
      show jM (r,t,u,v,w,(pU f e3,g,o),p,y) e0=false
      rw[q2];exact d4
     exact fin 15 _ e.symm q2.symm
    ·have d4:jM (r,t,u,v,w,(f.set e3.toNat (0,0,0,0),g,o),p,y) e0=true:=by simpa using c4
     have e:remE (r,t,u,v,w,(f,g,o),p,y) (e0,e1,e2,e3,e4,e5)=0:=by
      unfold remE
      rw[if_neg (fun k=>k q1),if_neg]
      show ¬ jM (r,t,u,v,w,(pU f e3,g,o),p,y) e0=false
      rw[q2,d4];decide
     exact fin 0 _ e.symm q2.symm
  ·have d1:¬ xQ f.length e3:=dcF c1
   have q:zAe f e3=2:=by unfold zAe;rw[if_pos d1]
   have e:remE (r,t,u,v,w,(f,g,o),p,y) (e0,e1,e2,e3,e4,e5)=2:=by unfold remE;rw[if_pos (by rw[q];decide)];exact q
   exact⟨d1,⟨fun c5=>fin 2 f e.symm (by unfold pU;rw[q,if_neg (by decide)]),fun c5=>(by cases c5)⟩⟩)
end
end Go.MB
