/- A house made of numbers. -/
import Derived.Test.YtfhomgggbhjglaaGreatMuI
namespace Go.MB
open Go Go.Sx Go.Proofs
set_option linter.unusedVariables false
set_option linter.unusedSimpArgs false
noncomputable section
def elA(l:List Int)(k:Int)(s:Int):E4:=(s,500+rnS l k 1000,rnS l (k+1) 10,rnS l (k+1) 10+rnS l (k+1+1) 100)
def fB(l:List Int):Nat->Int->List E4->List E4×Int
 |0,k,o=>(o,k)
 |n+1,k,o=>if rnS l (k+1+1+1) 5=0 then fB l n (k+1+1+1+1+1) (o++[elA l k (rnS l (k+1+1+1+1) 4)]) else fB l n (k+1+1+1+1) (o++[elA l k 2])
def fV(l:List Int):Nat->Int->Int->List Int->List Int
 |0,_,_,o=>o
 |n+1,i,k,o=>fV l n (i+1) (k+1) (if rnS l k 3=0 then o++[i] else o)
def vsK(l:List Int)(m:Nat):Nat->Int->List (List Int)->List (List Int)×Int
 |0,k,o=>(o,k)
 |n+1,k,o=>if (fV l m 0 k []).length=0 then vsK l m n (k+m+1) (o++[[rnS l (k+m) m]]) else vsK l m n (k+m) (o++[fV l m 0 k []])
def needK(l:List Int)(k:Int):Int:=1+rnS l k 2+rnS l (k+1) 9 / 8
def houE(l:List Int)(k:Int):List E4×Int:=fB l (1+rnS l (k+1+1) 6).toNat (k+1+1+1) []
def vG(l:List Int)(k:Int):List (List Int)×Int:=vsK l (houE l k).1.length (rnS l (houE l k).2 7).toNat ((houE l k).2+1) []
def vS(l:List Int)(k:Int):Hs:=((houE l k).1,(vG l k).1,needK l k)
theorem elsK_ok(l:List Int):∀(n:Nat)(k:Int)(o:List E4),0<=k->(fB l n k o).1.length=o.length+n/\k<=(fB l n k o).2/\(fB l n k o).2<=k+5*n
 |0,k,o,h=>⟨rfl,Int.le_refl _,by show k<=k+5*((0:Nat):Int);omega⟩
 |n+1,k,o,h=>by
  rw[fB]
  split
  ·obtain⟨h1,h2,h3⟩:=elsK_ok l n (k+1+1+1+1+1) (o++[elA l k (rnS l (k+1+1+1+1) 4)]) (by omega)
   rw[List.length_append,List.length_singleton] at h1
   exact⟨by omega,by omega,by omega⟩
  ·obtain⟨h1,h2,h3⟩:=elsK_ok l n (k+1+1+1+1) (o++[elA l k 2]) (by omega)
   rw[List.length_append,List.length_singleton] at h1
   exact⟨by omega,by omega,by omega⟩
theorem pickK_ok(l:List Int):∀(n:Nat)(i k:Int)(o:List Int),(fV l n i k o).length<=o.length+n
 |0,i,k,o=>Nat.le_refl _
 |n+1,i,k,o=>by
  rw[fV]
  have h:=pickK_ok l n (i+1) (k+1) (if rnS l k 3=0 then o++[i] else o)
  refine Nat.le_trans h ?_
  split
  ·rw[List.length_append,List.length_singleton];omega
  ·omega
theorem vsK_ok(l:List Int)(m:Nat)(hm:1<=m):∀(n:Nat)(k:Int)(o:List (List Int)),0<=k->(∀q∈o,1<=q.length/\q.length<=m)->(vsK l m n k o).1.length=o.length+n/\(∀q∈(vsK l m n k o).1,1<=q.length/\q.length<=m)/\k<=(vsK l m n k o).2/\(vsK l m n k o).2<=k+(m+1)*n
 |0,k,o,h,ho=>⟨rfl,ho,Int.le_refl _,by show k<=k+(m+1)*((0:Nat):Int);omega⟩
 |n+1,k,o,h,ho=>by
  have e:((m:Int)+1)*((n+1:Nat):Int)=(m+1)*n+(m+1):=by
   have:((n+1:Nat):Int)=n+1:=by omega
   rw[this,Int.mul_add,Int.mul_one]
  rw[vsK]
  split
  ·obtain⟨h1,h2,h3,h4⟩:=vsK_ok l m hm n (k+m+1) (o++[[rnS l (k+m) m]]) (by omega) (by
    intro q hq
    rcases List.mem_append.1 hq with hq |hq
    ·exact ho q hq
    ·rw[List.mem_singleton.1 hq];exact⟨Nat.le_refl _,hm⟩)
   rw[List.length_append,List.length_singleton] at h1
   exact⟨by omega,h2,by omega,by omega⟩
  ·rename_i hc
   obtain⟨h1,h2,h3,h4⟩:=vsK_ok l m hm n (k+m) (o++[fV l m 0 k []]) (by omega) (by
    intro q hq
    rcases List.mem_append.1 hq with hq |hq
    ·exact ho q hq
    ·rw[List.mem_singleton.1 hq]
     have:=pickK_ok l m 0 k []
     rw[List.length_nil] at this
     exact⟨by omega,by omega⟩)
   rw[List.length_append,List.length_singleton] at h1
   exact⟨by omega,h2,by omega,by omega⟩
theorem houK_ok(l:List Int){k:Int}(h:0<=k):(1<=(vS l k).1.length/\(vS l k).1.length<=6)/\(vS l k).2.1.length<=6/\(∀q∈(vS l k).2.1,1<=q.length/\q.length<=6)/\(1<=(vS l k).2.2/\(vS l k).2.2<=3)/\k<=(vG l k).2/\(vG l k).2<=k+100:=by
 have r1:=vA (l:=l) (k:=k) (n:=2) h (by decide)
 have r2:=vA (l:=l) (k:=k+1) (n:=9) (by omega) (by decide)
 have r3:=vA (l:=l) (k:=k+1+1) (n:=6) (by omega) (by decide)
 have e1:=elsK_ok l (1+rnS l (k+1+1) 6).toNat (k+1+1+1) [] (by omega)
 rw[List.length_nil] at e1
 unfold vS vG
 dsimp only
 have e2:houE l k=fB l (1+rnS l (k+1+1) 6).toNat (k+1+1+1) []:=rfl
 rw[<- e2] at e1
 have r4:=vA (l:=l) (k:=(houE l k).2) (n:=7) (by omega) (by decide)
 obtain⟨v1,v2,v3,v4⟩:=vsK_ok l (houE l k).1.length (by omega) (rnS l (houE l k).2 7).toNat ((houE l k).2+1) [] (by omega) (fun q hq=>by cases hq)
 rw[List.length_nil] at v1
 have e3:(((houE l k).1.length:Int)+1)*((rnS l (houE l k).2 7).toNat:Int)<=7*6:=Int.mul_le_mul (by omega) (by omega) (by omega) (by decide)
 refine⟨by omega,by omega,fun q hq=>?_,?_,by omega,by omega⟩
 ·have:=v2 q hq
  omega
 ·unfold needK
  omega
def L_hou0:Lay:={ slots:=[(0,.ptr 1 0),(2,.ptr 3084 0),(3,.ptr 4084 0),(4,.val tI)],boxes:=[(1,[.val tIs,.val tI]),(3084,[.val (.sl (.pair tI tV)),.val (.sl tIs),.val tI]),(4084,[.row 47 (.pair tI tV),.row 31 tIs,.val tI])] }
def L_hou0_0:Lay:={ slots:=[(0,.ptr 1 0),(2,.ptr 3084 0),(3,.ptr 4084 0)],boxes:=[(1,[.val tIs,.val tI]),(3084,[.val (.sl (.pair tI tV)),.val (.sl tIs),.val tI]),(4084,[.row 47 (.pair tI tV),.row 31 tIs,.val tI])] }
def X_hou0:Exit->St->Option Lay
 |.exit 0,_=>some L_hou0_0
 |_,_=>none
abbrev C_hou0:Code:=jH (zJ Tryz.f33) 0
abbrev AuJ1:Type:=Unit×Unit×Unit×Int×List Int×Int×List (Int×V)×List (List Int)×Int×List (Int×V)×List (List Int)×Int×Unit
theorem B_hou0(n:Int)(l:List Int)(k:Int)(xe:List (Int×V))(xv:List (List Int))(xn:Int)(es:List (Int×V))(vs:List (List Int))(nd:Int):zF (P:=P) [xM.gc] (zH []) [] 84 (usd noU ([1])) (jI C_hou0) L_hou0 X_hou0 (α:=AuJ1) (fun x=>x) (fun x=>x) ((),(),(),n,l,k,xe,xv,xn,es,vs,nd,()) =
 Tree.cond (decide (n>0)) (.need (0<=k/\k<1099511627776/\(0:Int)<1000) (.need (0<=k+1/\k+1<1099511627776/\(0:Int)<10) (.need (0<=k+1+1/\k+1+1<1099511627776/\(0:Int)<100) (.need (0<=k+1+1+1/\k+1+1+1<1099511627776/\(0:Int)<5) (.cond (rnS l (k+1+1+1) (5:Int)==0) (.need (0<=k+1+1+1+1/\k+1+1+1+1<1099511627776/\(0:Int)<4) (.need ((es.length+List.length [(rnS l (k+1+1+1+1) 4,IntKind.i64.wrap (500+rnS l k 1000),rnS l (k+1) 10,IntKind.i64.wrap (rnS l (k+1) 10+rnS l (k+1+1) 100))])*32<=140737488355328) (.leaf (Sum.inl ((),(),(),IntKind.i64.wrap (n - 1),l,k+1+1+1+1+1,xe,xv,xn,es++[(rnS l (k+1+1+1+1) 4,IntKind.i64.wrap (500+rnS l k 1000),rnS l (k+1) 10,IntKind.i64.wrap (rnS l (k+1) 10+rnS l (k+1+1) 100))],vs,nd,()))))) (.need ((es.length+List.length [((2:Int),IntKind.i64.wrap (500+rnS l k 1000),rnS l (k+1) 10,IntKind.i64.wrap (rnS l (k+1) 10+rnS l (k+1+1) 100))])*32<=140737488355328) (.leaf (Sum.inl ((),(),(),IntKind.i64.wrap (n - 1),l,k+1+1+1+1,xe,xv,xn,es++[((2:Int),IntKind.i64.wrap (500+rnS l k 1000),rnS l (k+1) 10,IntKind.i64.wrap (rnS l (k+1) 10+rnS l (k+1+1) 100))],vs,nd,()))))))))) (.leaf (Sum.inr (Exit.exit 0,Lay.st L_hou0_0 (usd noU [1]) ((),(),(),l,k,xe,xv,xn,es,vs,nd,())))):=by kernel_rfl
def inv_hou0:AuJ1->Prop:=fun(_,_,_,n,_,k,_,_,_,es,_)=>0<=n/\n<=6/\0<=k/\k+5*n<=2000000000/\(es.length:Int)+n<=6
def O_hou0:AuJ1->Tree (Exit×St):=fun(_,_,_,n,l,k,xe,xv,xn,es,vs,nd,_)=>(.leaf (.exit 0,L_hou0_0.st (usd noU ([1])) ((),(),(),l,((fB l n.toNat k es).2),xe,xv,xn,((fB l n.toNat k es).1),vs,nd,())))
def R_hou0:jS:=j_ 84 L_hou0 (fun x=>x) inv_hou0 O_hou0
theorem K_hou0:zU P [] 84 none (usd noU ([1])) C_hou0 R_hou0:=by
 refine zT hm (cx:=[xM.gc]) [] (xl:=X_hou0) (α:=AuJ1) (fun x=>x) (fun(_,_,_,n,_)=>n.toNat) (fun _=>rfl) (by kernel_rfl) (by kernel_rfl) ?_ (by kernel_rfl) trivial ?_
 ·intro e S L' h
  unfold X_hou0 at h
  split at h<;>cases h<;>kernel_rfl
 ·rintro⟨⟨⟩,⟨⟩,⟨⟩,n,l,k,xe,xv,xn,es,vs,nd,⟨⟩⟩ hinv Q hQ
  refine zD (B_hou0 n l k xe xv xn es vs nd) ?_
  obtain⟨h0,h1,h2,h3,h4⟩:=hinv
  have r1:=vA (l:=l) (k:=k) (n:=1000) h2 (by decide)
  have r2:=vA (l:=l) (k:=k+1) (n:=10) (by omega) (by decide)
  have r3:=vA (l:=l) (k:=k+1+1) (n:=100) (by omega) (by decide)
  rw[jZ (n:=n - 1) (by omega) (by omega),jZ (n:=500+rnS l k 1000) (by omega) (by omega),jZ (n:=rnS l (k+1) 10+rnS l (k+1+1) 100) (by omega) (by omega)]
  unfold O_hou0 at hQ
  dsimp only at hQ
  refine⟨fun c1=>?_,fun c1=>?_⟩
  ·have d1:0<n:=dcT c1
   rw[show n.toNat=(n - 1).toNat+1 by omega,fB] at hQ
   unfold elA at hQ
   refine⟨⟨h2,by omega,by decide⟩,⟨by omega,by omega,by decide⟩,⟨by omega,by omega,by decide⟩,⟨by omega,by omega,by decide⟩,fun c2=>?_,fun c2=>?_⟩
   ·rw[if_pos (by simpa using c2)] at hQ
    exact⟨⟨by omega,by omega,by decide⟩,by simp only[List.length_cons,List.length_nil];omega,⟨⟨by omega,by omega,by omega,by omega,by simp only[List.length_append,List.length_cons,List.length_nil];omega⟩,by show (n - 1).toNat<n.toNat;omega⟩,hQ⟩
   ·rw[if_neg (by simpa using c2)] at hQ
    exact⟨by simp only[List.length_cons,List.length_nil];omega,⟨⟨by omega,by omega,by omega,by omega,by simp only[List.length_append,List.length_cons,List.length_nil];omega⟩,by show (n - 1).toNat<n.toNat;omega⟩,hQ⟩
  ·have d1:¬ 0<n:=dcF c1
   rw[show n.toNat=0 by omega,fB] at hQ
   exact hQ
def L_hou24:Lay:={ slots:=[(0,.ptr 1 0),(2,.ptr 3084 0),(3,.ptr 4084 0),(6,.val tI),(7,.row 3 tI),(8,.val tI)],boxes:=[(1,[.val tIs,.val tI]),(3084,[.val (.sl (.pair tI tV)),.val (.sl tIs),.val tI]),(4084,[.row 47 (.pair tI tV),.row 31 tIs,.val tI])] }
def L_hou24_0:Lay:={ slots:=[(0,.ptr 1 0),(2,.ptr 3084 0),(3,.ptr 4084 0),(6,.val tI),(7,.row 3 tI)],boxes:=[(1,[.val tIs,.val tI]),(3084,[.val (.sl (.pair tI tV)),.val (.sl tIs),.val tI]),(4084,[.row 47 (.pair tI tV),.row 31 tIs,.val tI])] }
def X_hou24:Exit->St->Option Lay
 |.exit 4,_=>some L_hou24_0
 |_,_=>none
abbrev C_hou24:Code:=jH (jI (jH (zJ Tryz.f33) 2)) 4
abbrev AuJ2:Type:=Unit×Unit×Unit×Int×List Int×Int×List Int×Int×List (Int×V)×List (List Int)×Int×List (Int×V)×List (List Int)×Int×Unit
theorem B_hou24(n:Int)(q:List Int)(i:Int)(l:List Int)(k:Int)(xe:List (Int×V))(xv:List (List Int))(xn:Int)(es:List (Int×V))(vs:List (List Int))(nd:Int):zF (P:=P) [xM.gc] (zH []) [] 84 (usd noU ([1])) (jI C_hou24) L_hou24 X_hou24 (α:=AuJ2) (fun x=>x) (fun x=>x) ((),(),(),n,q,i,l,k,xe,xv,xn,es,vs,nd,()) =
 Tree.cond (decide (i<(es.length:Int))) (.need (0<=k/\k<1099511627776/\(0:Int)<3) (.cond (rnS l k (3:Int)==0) (.need ((q.length+List.length [i])*8<=140737488355328) (.leaf (Sum.inl ((),(),(),n,q++[i],IntKind.i64.wrap (i+1),l,k+1,xe,xv,xn,es,vs,nd,())))) (.leaf (Sum.inl ((),(),(),n,q,IntKind.i64.wrap (i+1),l,k+1,xe,xv,xn,es,vs,nd,()))))) (.leaf (Sum.inr (Exit.exit 4,Lay.st L_hou24_0 (usd noU [1]) ((),(),(),n,q,l,k,xe,xv,xn,es,vs,nd,())))):=by kernel_rfl
def inv_hou24:AuJ2->Prop:=fun(_,_,_,_,q,i,_,k,_,_,_,es,_)=>0<=i/\i<=es.length/\es.length<=6/\0<=k/\k+es.length - i<=2000000000/\(q.length:Int)<=i
def O_hou24:AuJ2->Tree (Exit×St):=fun(_,_,_,n,q,i,l,k,xe,xv,xn,es,vs,nd,_)=>(.leaf (.exit 4,L_hou24_0.st (usd noU ([1])) ((),(),(),n,(fV l ((es.length:Int) - i).toNat i k q),l,(k+((es.length:Int) - i)),xe,xv,xn,es,vs,nd,())))
def R_hou24:jS:=j_ 84 L_hou24 (fun x=>x) inv_hou24 O_hou24
theorem K_hou24:zU P [] 84 none (usd noU ([1])) C_hou24 R_hou24:=by
 refine zT hm (cx:=[xM.gc]) [] (xl:=X_hou24) (α:=AuJ2) (fun x=>x) (fun(_,_,_,_,_,i,_,_,_,_,_,es,_)=>((es.length:Int) - i).toNat) (fun _=>rfl) (by kernel_rfl) (by kernel_rfl) ?_ (by kernel_rfl) trivial ?_
 ·intro e S L' h
  unfold X_hou24 at h
  split at h<;>cases h<;>kernel_rfl
 ·rintro⟨⟨⟩,⟨⟩,⟨⟩,n,q,i,l,k,xe,xv,xn,es,vs,nd,⟨⟩⟩ hinv Q hQ
  refine zD (B_hou24 n q i l k xe xv xn es vs nd) ?_
  obtain⟨h0,h1,h2,h3,h4,h5⟩:=hinv
  rw[jZ (n:=i+1) (by omega) (by omega)]
  unfold O_hou24 at hQ
  dsimp only at hQ
  refine⟨fun c1=>?_,fun c1=>?_⟩
  ·have d1:=dcT c1
   rw[show ((es.length:Int) - i).toNat=((es.length:Int) - (i+1)).toNat+1 by omega,fV,show k+((es.length:Int) - i)=k+1+((es.length:Int) - (i+1)) by omega] at hQ
   refine⟨⟨h3,by omega,by decide⟩,fun c2=>?_,fun c2=>?_⟩
   ·rw[if_pos (by simpa using c2)] at hQ
    exact⟨by simp only[List.length_cons,List.length_nil];omega,⟨⟨by omega,by omega,h2,by omega,by omega,by simp only[List.length_append,List.length_cons,List.length_nil];omega⟩,by show ((es.length:Int) - (i+1)).toNat<((es.length:Int) - i).toNat;omega⟩,hQ⟩
   ·rw[if_neg (by simpa using c2)] at hQ
    exact⟨⟨⟨by omega,by omega,h2,by omega,by omega,by omega⟩,by show ((es.length:Int) - (i+1)).toNat<((es.length:Int) - i).toNat;omega⟩,hQ⟩
  ·have d1:=dcF c1
   rw[show ((es.length:Int) - i).toNat=0 by omega,fV,show k+((es.length:Int) - i)=k by omega] at hQ
   exact hQ
def L_hou2:Lay:={ slots:=[(0,.ptr 1 0),(2,.ptr 3084 0),(3,.ptr 4084 0),(6,.val tI)],boxes:=[(1,[.val tIs,.val tI]),(3084,[.val (.sl (.pair tI tV)),.val (.sl tIs),.val tI]),(4084,[.row 47 (.pair tI tV),.row 31 tIs,.val tI])] }
def L_hou2_0:Lay:={ slots:=[(2,.ptr 3084 0),(3,.ptr 4084 0)],boxes:=[(1,[.val tIs,.val tI]),(3084,[.val (.sl (.pair tI tV)),.val (.sl tIs),.val tI]),(4084,[.row 47 (.pair tI tV),.row 31 tIs,.val tI])] }
def X_hou2:Exit->St->Option Lay
 |.exit 2,_=>some L_hou2_0
 |_,_=>none
abbrev C_hou2:Code:=jH (zJ Tryz.f33) 2
theorem B_hou2(n:Int)(l:List Int)(k:Int)(xe:List (Int×V))(xv:List (List Int))(xn:Int)(es:List (Int×V))(vs:List (List Int))(nd:Int):zF (P:=P) [xM.gc] (zH [(4,R_hou24)]) [] 84 (usd noU ([1])) (jI C_hou2) L_hou2 X_hou2 (α:=AuJ1) (fun x=>x) (fun x=>x) ((),(),(),n,l,k,xe,xv,xn,es,vs,nd,()) =
 Tree.cond (decide (n>0)) (.need (inv_hou24 ((),(),(),n,[],0,l,k,xe,xv,xn,es,vs,nd,())) (.cond ((↑(List.length (fV l (Int.toNat ((es.length:Int) - 0)) 0 k [])):Int)==0) (.need (0<=k+((es.length:Int) - 0)/\k+((es.length:Int) - 0)<1099511627776/\0<(es.length:Int)) (.need ((vs.length+List.length [[rnS l (k+((es.length:Int) - 0)) (es.length:Int)]])*24<=140737488355328) (.leaf (Sum.inl ((),(),(),IntKind.i64.wrap (n - 1),l,k+((es.length:Int) - 0)+1,xe,xv,xn,es,vs++[[rnS l (k+((es.length:Int) - 0)) (es.length:Int)]],nd,()))))) (.need ((vs.length+List.length [fV l (Int.toNat ((es.length:Int) - 0)) 0 k []])*24<=140737488355328) (.leaf (Sum.inl ((),(),(),IntKind.i64.wrap (n - 1),l,k+((es.length:Int) - 0),xe,xv,xn,es,vs++[fV l (Int.toNat ((es.length:Int) - 0)) 0 k []],nd,())))))) (.leaf (Sum.inr (Exit.exit 2,Lay.st L_hou2_0 (usd noU [1]) ((),(),l,k,xe,xv,xn,es,vs,nd,())))):=by kernel_rfl
def inv_hou2:AuJ1->Prop:=fun(_,_,_,n,_,k,_,_,_,es,vs,_)=>0<=n/\n<=6/\0<=k/\k+7*n<=2000000000/\(vs.length:Int)+n<=6/\1<=es.length/\es.length<=6
def O_hou2:AuJ1->Tree (Exit×St):=fun(_,_,_,n,l,k,xe,xv,xn,es,vs,nd,_)=>(.leaf (.exit 2,L_hou2_0.st (usd noU ([1])) ((),(),l,((vsK l es.length n.toNat k vs).2),xe,xv,xn,es,((vsK l es.length n.toNat k vs).1),nd,())))
def R_hou2:jS:=j_ 84 L_hou2 (fun x=>x) inv_hou2 O_hou2
theorem K_hou2:zU P [] 84 none (usd noU ([1])) C_hou2 R_hou2:=by
 refine zT hm (cx:=[xM.gc]) [(4,R_hou24)] (xl:=X_hou2) (α:=AuJ1) (fun x=>x) (fun(_,_,_,n,_)=>n.toNat) (fun _=>rfl) (by kernel_rfl) (by kernel_rfl) ?_ (by kernel_rfl) ⟨K_hou24,trivial⟩ ?_
 ·intro e S L' h
  unfold X_hou2 at h
  split at h<;>cases h<;>kernel_rfl
 ·rintro⟨⟨⟩,⟨⟩,⟨⟩,n,l,k,xe,xv,xn,es,vs,nd,⟨⟩⟩ hinv Q hQ
  refine zD (B_hou2 n l k xe xv xn es vs nd) ?_
  obtain⟨h0,h1,h2,h3,h4,h5,h6⟩:=hinv
  rw[jZ (n:=n - 1) (by omega) (by omega),Int.sub_zero,Int.toNat_natCast]
  unfold O_hou2 at hQ
  dsimp only at hQ
  have hp:=pickK_ok l es.length 0 k []
  rw[List.length_nil] at hp
  refine⟨fun c1=>?_,fun c1=>?_⟩
  ·have d1:0<n:=dcT c1
   rw[show n.toNat=(n - 1).toNat+1 by omega,vsK] at hQ
   refine⟨⟨by decide,by omega,by omega,h2,by omega,by decide⟩,fun c2=>?_,fun c2=>?_⟩
   ·have c2:(fV l es.length 0 k []).length=0:=by simpa using c2
    rw[if_pos c2] at hQ
    exact⟨⟨by omega,by omega,by omega⟩,by simp only[List.length_cons,List.length_nil];omega,⟨⟨by omega,by omega,by omega,by omega,by simp only[List.length_append,List.length_cons,List.length_nil];omega,h5,h6⟩,by show (n - 1).toNat<n.toNat;omega⟩,hQ⟩
   ·have c2:¬ (fV l es.length 0 k []).length=0:=by simpa using c2
    rw[if_neg c2] at hQ
    exact⟨by simp only[List.length_cons,List.length_nil];omega,⟨⟨by omega,by omega,by omega,by omega,by simp only[List.length_append,List.length_cons,List.length_nil];omega,h5,h6⟩,by show (n - 1).toNat<n.toNat;omega⟩,hQ⟩
  ·have d1:¬ 0<n:=dcF c1
   rw[show n.toNat=0 by omega,vsK] at hQ
   exact hQ
def L_HouseOf:Lay:={ slots:=[(0,.ptr 1 0)],boxes:=[(1,[.val tIs,.val tI])] }
theorem T_HouseOf(l:List Int)(k:Int):jG (P:=P) [xM.gc] (zH [(0,R_hou0),(2,R_hou2)]) Tryz.f33 L_HouseOf false ((),l,k,()) =
 Tree.need (0<=k/\k<1099511627776/\(0:Int)<2) (.need (0<=k+1/\k+1<1099511627776/\(0:Int)<9) (.need ((8:Int)≠0) (.need (0<=k+1+1/\k+1+1<1099511627776/\(0:Int)<6) (.need (inv_hou0 ((),(),(),IntKind.i64.wrap (1+rnS l (k+1+1) 6),l,k+1+1+1,[],[],0,[],[],IntKind.i64.wrap (IntKind.i64.wrap (1+rnS l k 2)+IntKind.i64.wrap (Int.tdiv (rnS l (k+1) 9) 8)),())) (.need (0<=(fB l (Int.toNat (IntKind.i64.wrap (1+rnS l (k+1+1) 6))) (k+1+1+1) []).2/\(fB l (Int.toNat (IntKind.i64.wrap (1+rnS l (k+1+1) 6))) (k+1+1+1) []).2<1099511627776/\(0:Int)<7) (.need (inv_hou2 ((),(),(),rnS l (fB l (Int.toNat (IntKind.i64.wrap (1+rnS l (k+1+1) 6))) (k+1+1+1) []).2 7,l,(fB l (Int.toNat (IntKind.i64.wrap (1+rnS l (k+1+1) 6))) (k+1+1+1) []).2+1,[],[],0,(fB l (Int.toNat (IntKind.i64.wrap (1+rnS l (k+1+1) 6))) (k+1+1+1) []).1,[],IntKind.i64.wrap (IntKind.i64.wrap (1+rnS l k 2)+IntKind.i64.wrap (Int.tdiv (rnS l (k+1) 9) 8)),())) (.leaf { res:=.agg [.sl (Ty.pair tI tV) (fB l (Int.toNat (IntKind.i64.wrap (1+rnS l (k+1+1) 6))) (k+1+1+1) []).1,.sl tIs (vsK l (List.length (fB l (Int.toNat (IntKind.i64.wrap (1+rnS l (k+1+1) 6))) (k+1+1+1) []).1) (Int.toNat (rnS l (fB l (Int.toNat (IntKind.i64.wrap (1+rnS l (k+1+1) 6))) (k+1+1+1) []).2 7)) ((fB l (Int.toNat (IntKind.i64.wrap (1+rnS l (k+1+1) 6))) (k+1+1+1) []).2+1) []).1,.int .i64 (IntKind.i64.wrap (IntKind.i64.wrap (1+rnS l k 2)+IntKind.i64.wrap (Int.tdiv (rnS l (k+1) 9) 8)))],boxes:=[[.sl tI l,.int .i64 (vsK l (List.length (fB l (Int.toNat (IntKind.i64.wrap (1+rnS l (k+1+1) 6))) (k+1+1+1) []).1) (Int.toNat (rnS l (fB l (Int.toNat (IntKind.i64.wrap (1+rnS l (k+1+1) 6))) (k+1+1+1) []).2 7)) ((fB l (Int.toNat (IntKind.i64.wrap (1+rnS l (k+1+1) 6))) (k+1+1+1) []).2+1) []).2]] }))))))):=by kernel_rfl
def c_HouseOf:MC P:=MC.of (α:=Unit×List Int×Int×Unit) 33 L_HouseOf (fun x=>x) (fun x=>x) (fun _=>rfl)
 (fun x=>some (0<=x.2.2.1/\x.2.2.1<=500000000))
 (fun x=>⟨.agg [.sl tEl (vS x.2.1 x.2.2.1).1,.sl tIs (vS x.2.1 x.2.2.1).2.1,.int .i64 (vS x.2.1 x.2.2.1).2.2],[[.sl tI x.2.1,.int .i64 (vG x.2.1 x.2.2.1).2]],[]⟩) (by kernel_rfl) (by kernel_rfl) (by kernel_rfl) (by
  rintro⟨⟨⟩,l,k,⟨⟩⟩ hp
  refine yG hm (own:=false) (by kernel_rfl) (by kernel_rfl) (by kernel_rfl) (T_HouseOf l k) ⟨K_hou0,K_hou2,trivial⟩ ?_
  try dsimp only at hp
  try dsimp only
  obtain⟨p1,p2⟩:0<=k/\k<=500000000:=hp
  have r1:=vA (l:=l) (k:=k) (n:=2) p1 (by decide)
  have r2:=vA (l:=l) (k:=k+1) (n:=9) (by omega) (by decide)
  have r3:=vA (l:=l) (k:=k+1+1) (n:=6) (by omega) (by decide)
  rw[Int.tdiv_eq_ediv_of_nonneg r2.1,jZ (n:=1+rnS l (k+1+1) 6) (by omega) (by omega),jZ (n:=1+rnS l k 2) (by omega) (by omega),jZ (n:=rnS l (k+1) 9 / 8) (by omega) (by omega),jZ (n:=1+rnS l k 2+rnS l (k+1) 9 / 8) (by omega) (by omega)]
  have e1:=elsK_ok l (1+rnS l (k+1+1) 6).toNat (k+1+1+1) [] (by omega)
  rw[List.length_nil] at e1
  have eE:fB l (1+rnS l (k+1+1) 6).toNat (k+1+1+1) []=houE l k:=rfl
  rw[eE] at e1 ⊢
  have r4:=vA (l:=l) (k:=(houE l k).2) (n:=7) (by omega) (by decide)
  exact⟨⟨p1,by omega,by decide⟩,⟨by omega,by omega,by decide⟩,by decide,⟨by omega,by omega,by decide⟩,⟨by omega,by omega,by omega,by omega,by rw[List.length_nil];omega⟩,⟨by omega,by omega,by decide⟩,⟨by omega,by omega,by omega,by omega,by rw[List.length_nil];omega,by omega,by omega⟩,rfl⟩)
end
end Go.MB
