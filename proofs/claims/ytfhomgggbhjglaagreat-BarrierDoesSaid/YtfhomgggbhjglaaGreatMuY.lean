/- A site made of numbers; what an entry does. -/
import Derived.Test.YtfhomgggbhjglaaGreatMuX
import Derived.Test.YtfhomgggbhjglaaGreatMuJ
namespace Go.MB
open Go Go.Sx Go.Proofs
set_option linter.unusedVariables false
set_option linter.unusedSimpArgs false
noncomputable section
theorem envB_snoc{N:Int}:∀{o:List Int}{last i:Int},zAh N last o=false->(∀x∈o,x<i)->last<i->i<N->zAh N last (o++[i])=false
 | [],last,i,_,_,h1,h2=>by
  show (decide (i<=last)||(decide (i>=N)||false))=false
  rw[decide_eq_false (by omega),decide_eq_false (by omega)];rfl
 |x::o,last,i,h,hx,h1,h2=>by
  rw[zAh,Bool.or_eq_false_iff,Bool.or_eq_false_iff] at h
  rw[List.cons_append,zAh,h.1,h.2.1,Bool.false_or,Bool.false_or]
  exact envB_snoc h.2.2 (fun y hy=>hx y (List.mem_cons_of_mem _ hy)) (hx x List.mem_cons_self) h2
theorem pickK_env(l:List Int){N:Int}:∀(n:Nat)(i k:Int)(o:List Int),zAh N (-1) o=false->(∀x∈o,x<i)->0<=i->i+n<=N->zAh N (-1) (fV l n i k o)=false
 |0,i,k,o,h,_,_,_=>h
 |n+1,i,k,o,h,hx,h0,h1=>by
  rw[fV]
  refine pickK_env l n (i+1) (k+1) _ ?_ ?_ (by omega) (by omega)
  ·split
   ·exact envB_snoc h hx (by omega) (by omega)
   ·exact h
  ·split
   ·intro x hx'
    rcases List.mem_append.1 hx' with q |q
    ·have:=hx x q;omega
    ·rw[List.mem_singleton.1 q];omega
   ·intro x hx'
    have:=hx x hx';omega
theorem vsK_env(l:List Int)(m:Nat)(hm:1<=m):∀(n:Nat)(k:Int)(o:List (List Int)),0<=k->(∀q∈o,kX m q=0)->∀q∈(vsK l m n k o).1,kX m q=0
 |0,k,o,h,ho=>ho
 |n+1,k,o,h,ho=>by
  rw[vsK]
  split
  ·refine vsK_env l m hm n _ _ (by omega) fun q hq=>?_
   rcases List.mem_append.1 hq with hq |hq
   ·exact ho q hq
   ·rw[List.mem_singleton.1 hq]
    have r:=vA (l:=l) (k:=k+m) (n:=m) (by omega) (by omega)
    unfold kX
    rw[if_neg (by simp),if_neg]
    show ¬ (decide (rnS l (k+m) m <= -1)||(decide (rnS l (k+m) m>=m)||false))=true
    rw[decide_eq_false (by omega),decide_eq_false (by omega)]
    decide
  ·rename_i hc
   refine vsK_env l m hm n _ _ (by omega) fun q hq=>?_
   rcases List.mem_append.1 hq with hq |hq
   ·exact ho q hq
   ·rw[List.mem_singleton.1 hq]
    unfold kX
    rw[if_neg hc,if_neg]
    rw[pickK_env l m 0 k [] rfl (fun x hx=>by cases hx) (by decide) (by omega)]
    decide
theorem envEs_of{n:Int}:∀{v:List (List Int)},(∀q∈v,kX n q=0)->gA n v=0
 | [],_=>rfl
 |q::v,h=>by
  rw[gA,if_neg (by rw[h q List.mem_cons_self];simp)]
  exact envEs_of fun x hx=>h x (List.mem_cons_of_mem _ hx)
theorem elA_ok{l:List Int}{k s:Int}(hk:0<=k) (hs:0<=s/\s<=3):elE (elA l k s)=0:=by
 have r1:=vA (l:=l) (k:=k) (n:=1000) hk (by decide)
 have r2:=vA (l:=l) (k:=k+1) (n:=10) (by omega) (by decide)
 have r3:=vA (l:=l) (k:=k+1+1) (n:=100) (by omega) (by decide)
 unfold elA
 refine elE_iff.2 ⟨hs,⟨?_,?_⟩,⟨?_,?_⟩,?_,?_⟩<;>dsimp only<;>omega
theorem elsK_el(l:List Int):∀(n:Nat)(k:Int)(o:List E4),0<=k->(∀e∈o,elE e=0)->∀e∈(fB l n k o).1,elE e=0
 |0,k,o,h,ho=>ho
 |n+1,k,o,h,ho=>by
  rw[fB]
  split
  ·refine elsK_el l n _ _ (by omega) fun e he=>?_
   rcases List.mem_append.1 he with he |he
   ·exact ho e he
   ·rw[List.mem_singleton.1 he]
    have r:=vA (l:=l) (k:=k+1+1+1+1) (n:=4) (by omega) (by decide)
    exact elA_ok h ⟨r.1,by omega⟩
  ·refine elsK_el l n _ _ (by omega) fun e he=>?_
   rcases List.mem_append.1 he with he |he
   ·exact ho e he
   ·rw[List.mem_singleton.1 he]
    exact elA_ok h ⟨by decide,by decide⟩
theorem houK_house(l:List Int){k:Int}(h:0<=k):zB (vS l k)=0:=by
 obtain⟨⟨a1,a2⟩,a3,a4,a5,_,_⟩:=houK_ok l h
 have e1:elEs (vS l k).1=0:=elEs_of (elsK_el l _ _ [] (by omega) (fun e he=>by cases he))
 have r3:=vA (l:=l) (k:=k+1+1) (n:=6) (by omega) (by decide)
 have e0:=elsK_ok l (1+rnS l (k+1+1) 6).toNat (k+1+1+1) [] (by omega)
 have e2:gA (vS l k).1.length (vS l k).2.1=0:=envEs_of (vsK_env l (houE l k).1.length a1 _ _ [] (by
  have:k+1+1+1<=(houE l k).2:=e0.2.1
  omega) (fun q hq=>by cases hq))
 unfold zB
 rw[if_neg (by omega),if_neg (by omega),e1,if_neg (by decide),e2,if_neg (by decide),if_neg (by omega)]
def pmK(l:List Int)(crew:Int):Nat->Int->Int->List Pm->Bool->List Pm×Bool×Int
 |0,_,k,o,b=>(o,b,k)
 |n+1,op,k,o,b=>if rnS l k 2=0 then pmK l crew n (op+1) (k+1+1+1+1) (o++[(op,rnS l (k+1) crew,rnS l (k+1+1) 120,rnS l (k+1+1+1) 3==0)]) (b||(rnS l (k+1+1+1) 3==0)) else pmK l crew n (op+1) (k+1) o b
theorem ordB_snoc:∀{o:List Pm}{last:Int}{p:Pm},qW last o=false->(∀x∈o,x.1<p.1)->last<p.1->p.1<16->qW last (o++[p])=false
 | [],last,p,_,_,h1,h2=>by
  show (decide (p.1<=last)||(decide (p.1>=16)||false))=false
  rw[decide_eq_false (by omega),decide_eq_false (by omega)];rfl
 |x::o,last,p,h,hx,h1,h2=>by
  rw[qW,Bool.or_eq_false_iff,Bool.or_eq_false_iff] at h
  rw[List.cons_append,qW,h.1,h.2.1,Bool.false_or,Bool.false_or]
  exact ordB_snoc h.2.2 (fun y hy=>hx y (List.mem_cons_of_mem _ hy)) (hx x List.mem_cons_self) h2
structure PmK (crew:Int) (op:Int) (o:List Pm) (b:Bool):Prop where
 ord:qW (-1) o=false
 lt:∀x∈o,x.1<op
 prm:o.any (qQ crew)=false
 opn:o.any gG=b
 len:(o.length:Int)<=op
theorem pmK_ok(l:List Int){crew:Int}(hc:1<=crew/\crew<=100):∀(n:Nat)(op k:Int)(o:List Pm)(b:Bool),0<=op->op+n<=4->0<=k->PmK crew op o b->PmK crew (op+n) (pmK l crew n op k o b).1 (pmK l crew n op k o b).2.1/\k<=(pmK l crew n op k o b).2.2/\(pmK l crew n op k o b).2.2<=k+4*n
 |0,op,k,o,b,_,_,_,h=>⟨by show PmK crew (op+((0:Nat):Int)) o b;rw[show op+((0:Nat):Int)=op by omega];exact h,by show k<=k;omega,by show k<=k+4*((0:Nat):Int);omega⟩
 |n+1,op,k,o,b,h0,h1,hk,h=>by
  rw[pmK]
  have e:op+((n+1:Nat):Int)=op+1+n:=by omega
  rw[e]
  split
  ·have r1:=vA (l:=l) (k:=k+1) (n:=crew) (by omega) (by omega)
   have r2:=vA (l:=l) (k:=k+1+1) (n:=120) (by omega) (by decide)
   obtain⟨g1,g2,g3⟩:=pmK_ok l hc n (op+1) (k+1+1+1+1) (o++[(op,rnS l (k+1) crew,rnS l (k+1+1) 120,rnS l (k+1+1+1) 3==0)]) (b||(rnS l (k+1+1+1) 3==0)) (by omega) (by omega) (by omega) (by
    refine⟨ordB_snoc h.ord h.lt (by show (-1:Int)<op;omega) (by show op<16;omega),?_,?_,?_,?_⟩
    ·intro x hx
     rcases List.mem_append.1 hx with q |q
     ·have:=h.lt x q;omega
     ·rw[List.mem_singleton.1 q];show op<op+1;omega
    ·rw[List.any_append,h.prm,Bool.false_or,List.any_cons,List.any_nil,Bool.or_false]
     unfold qQ vB wi
     dsimp only
     rw[decide_eq_true (by omega),decide_eq_true (by omega),decide_eq_true (by omega),decide_eq_true (by omega)]
     rfl
    ·rw[List.any_append,h.opn,List.any_cons,List.any_nil,Bool.or_false];rfl
    ·have:=h.len
     rw[List.length_append,List.length_singleton];omega)
   exact⟨g1,by omega,by omega⟩
  ·obtain⟨g1,g2,g3⟩:=pmK_ok l hc n (op+1) (k+1) o b (by omega) (by omega) (by omega) ⟨h.ord,fun x hx=>by have:=h.lt x hx;omega,h.prm,h.opn,by have:=h.len;omega⟩
   exact⟨g1,by omega,by omega⟩
structure SiteV (s:zE):Prop where
 ok:vY s=0
 l1:s.2.2.2.2.2.1.1.length<=10
 l2:s.2.2.2.2.2.1.2.1.length<=8
 l3:∀q∈s.2.2.2.2.2.1.2.1,q.length<=10
 l4:s.2.2.2.2.2.2.1.length<=16
theorem chkS_site{s:zE}(h:vY s=0):SiteV s:=by
 have k:=yD (fC h)
 refine⟨h,k.e10,k.v8,fun q hq=>(k.ev q hq).2.1,?_⟩
 unfold vY at h
 split at h
 ·cases h
 split at h
 ·rename_i h2;exact absurd h h2
 split at h
 ·cases h
 ·omega
theorem SiteV.sOk{s:zE}(h:SiteV s):sOk s:=⟨⟨by have:=h.l1;omega,by have:=h.l2;omega,fun q hq=>by have:=h.l3 q hq;omega⟩,by have:=h.l4;omega⟩
theorem chkS_of{s:zE}(h1:xW s=false) (h2:zB s.2.2.2.2.2.1=0) (h3:s.2.2.2.2.2.2.1.length<=16) (h4:qW (-1) s.2.2.2.2.2.2.1=false) (h5:s.2.2.2.2.2.2.1.any (qQ s.2.1)=false) (h6:(jM s s.1=true->s.2.2.2.2.2.2.2 = -1)/\(jM s s.1=false->wi s.2.2.2.2.2.2.2 0 s.1=true)):vY s=0:=by
 unfold vY
 rw[if_neg (by rw[h1];decide),if_neg (fun k=>k h2),if_neg (by omega),if_neg (by rw[h4];decide),if_neg (by rw[h5];decide)]
 cases hk:jM s s.1 with
 |true=>rw[if_pos rfl,if_neg (fun k=>k (h6.1 hk))]
 |false=>rw[if_neg (by decide),if_neg (by rw[h6.2 hk];decide)]
def L_site0:Lay:={ slots:=[(0,.ptr 1 0),(2,.ptr 3085 0),(3,.ptr 4085 0),(5,.val .bool),(6,.val tI)],boxes:=[(1,[.val tIs,.val tI]),(3085,[.val tI,.val tI,.val tI,.val tI,.val tI,.val (.sl (.pair tI tV)),.val (.sl tIs),.val tI,.val (.sl (.pair tI (.pair tI (.pair tI .bool)))),.val tI]),(4085,[.val tI,.val tI,.val tI,.val tI,.val tI,.val (.sl (.pair tI tV)),.val (.sl tIs),.val tI,.row 49 (.pair tI (.pair tI (.pair tI .bool))),.val tI])] }
def L_site0_0:Lay:={ slots:=[(0,.ptr 1 0),(2,.ptr 3085 0),(3,.ptr 4085 0),(5,.val .bool)],boxes:=[(1,[.val tIs,.val tI]),(3085,[.val tI,.val tI,.val tI,.val tI,.val tI,.val (.sl (.pair tI tV)),.val (.sl tIs),.val tI,.val (.sl (.pair tI (.pair tI (.pair tI .bool)))),.val tI]),(4085,[.val tI,.val tI,.val tI,.val tI,.val tI,.val (.sl (.pair tI tV)),.val (.sl tIs),.val tI,.row 49 (.pair tI (.pair tI (.pair tI .bool))),.val tI])] }
def X_site0:Exit->St->Option Lay
 |.exit 0,_=>some L_site0_0
 |_,_=>none
abbrev C_site0:Code:=jH (zJ Tryz.f13) 0
abbrev AuY1:Type:=Unit×Unit×Unit×Bool×Int×List Int×Int×Int×Int×Int×Int×Int×List (Int×V)×List (List Int)×Int×List (Int×(Int×(Int×Bool)))×Int×Int×Int×Int×Int×Int×List (Int×V)×List (List Int)×Int×List (Int×(Int×(Int×Bool)))×Int×Unit
theorem B_site0(b:Bool)(op:Int)(l:List Int)(k d g j t u:Int)(w:List (Int×V))(z:List (List Int))(B:Int)(D:List (Int×(Int×(Int×Bool))))(E F crew G c H:Int)(I:List (Int×V))(J:List (List Int))(K:Int)(o:List (Int×(Int×(Int×Bool))))(L:Int):zF (P:=P) [xM.gc] (zH []) [] 85 (usd noU ([1])) (jI C_site0) L_site0 X_site0 (α:=AuY1) (fun x=>x) (fun x=>x) ((),(),(),b,op,l,k,d,g,j,t,u,w,z,B,D,E,F,crew,G,c,H,I,J,K,o,L,()) =
 Tree.cond (decide (op<4)) (.need (0<=k/\k<1099511627776/\(0:Int)<2) (.cond (rnS l k (2:Int)==0) (.need (0<=k+1/\k+1<1099511627776/\0<crew) (.need (0<=k+1+1/\k+1+1<1099511627776/\(0:Int)<120) (.need (0<=k+1+1+1/\k+1+1+1<1099511627776/\(0:Int)<3) (.cond b (.need ((o.length+List.length [(op,rnS l (k+1) crew,rnS l (k+1+1) 120,rnS l (k+1+1+1) (3:Int)==0)])*32<=140737488355328) (.leaf (Sum.inl ((),(),(),true,IntKind.i64.wrap (op+1),l,k+1+1+1+1,d,g,j,t,u,w,z,B,D,E,F,crew,G,c,H,I,J,K,o++[(op,rnS l (k+1) crew,rnS l (k+1+1) 120,rnS l (k+1+1+1) (3:Int)==0)],L,())))) (.need ((o.length+List.length [(op,rnS l (k+1) crew,rnS l (k+1+1) 120,rnS l (k+1+1+1) (3:Int)==0)])*32<=140737488355328) (.leaf (Sum.inl ((),(),(),rnS l (k+1+1+1) (3:Int)==0,IntKind.i64.wrap (op+1),l,k+1+1+1+1,d,g,j,t,u,w,z,B,D,E,F,crew,G,c,H,I,J,K,o++[(op,rnS l (k+1) crew,rnS l (k+1+1) 120,rnS l (k+1+1+1) (3:Int)==0)],L,())))))))) (.leaf (Sum.inl ((),(),(),b,IntKind.i64.wrap (op+1),l,k+1,d,g,j,t,u,w,z,B,D,E,F,crew,G,c,H,I,J,K,o,L,()))))) (.leaf (Sum.inr (Exit.exit 0,Lay.st L_site0_0 (usd noU [1]) ((),(),(),b,l,k,d,g,j,t,u,w,z,B,D,E,F,crew,G,c,H,I,J,K,o,L,())))):=by kernel_rfl
def inv_site0:AuY1->Prop:=fun(_,_,_,_,op,_,k,_,_,_,_,_,_,_,_,_,_,_,crew,_,_,_,_,_,_,o,_)=>0<=op/\op<=4/\0<=k/\k<=1000000000 - 5*(4 - op)/\(1<=crew/\crew<=100)/\(o.length:Int)<=op
def O_site0:AuY1->Tree (Exit×St):=fun(_,_,_,b,op,l,k,d,g,j,t,u,w,z,B,D,E,F,crew,G,c,H,I,J,K,o,L,_)=>(.leaf (.exit 0,L_site0_0.st (usd noU ([1])) ((),(),(),((pmK l crew (4 - op).toNat op k o b).2.1),l,((pmK l crew (4 - op).toNat op k o b).2.2),d,g,j,t,u,w,z,B,D,E,F,crew,G,c,H,I,J,K,((pmK l crew (4 - op).toNat op k o b).1),L,())))
def R_site0:jS:=j_ 85 L_site0 (fun x=>x) inv_site0 O_site0
theorem K_site0:zU P [] 85 none (usd noU ([1])) C_site0 R_site0:=by
 refine zT hm (cx:=[xM.gc]) [] (xl:=X_site0) (α:=AuY1) (fun x=>x) (fun(_,_,_,_,op,_)=>(4 - op).toNat) (fun _=>rfl) (by kernel_rfl) (by kernel_rfl) ?_ (by kernel_rfl) trivial ?_
 ·intro e S L' h
  unfold X_site0 at h
  split at h<;>cases h<;>kernel_rfl
 ·rintro⟨⟨⟩,⟨⟩,⟨⟩,b,op,l,k,d,g,j,t,u,w,z,B,D,E,F,crew,G,c,H,I,J,K,o,L,⟨⟩⟩ hinv Q hQ
  refine zD (B_site0 b op l k d g j t u w z B D E F crew G c H I J K o L) ?_
  obtain⟨h0,h1,h2,h3,h4,h5⟩:=hinv
  rw[jZ (n:=op+1) (by omega) (by omega)]
  have hQ' : Q (.exit 0,L_site0_0.st (usd noU [1]) ((),(),(),(pmK l crew (4 - op).toNat op k o b).2.1,l,(pmK l crew (4 - op).toNat op k o b).2.2,d,g,j,t,u,w,z,B,D,E,F,crew,G,c,H,I,J,K,(pmK l crew (4 - op).toNat op k o b).1,L,())):=hQ
  refine⟨fun c1=>?_,fun c1=>?_⟩
  ·have d1:op<4:=dcT c1
   have hm:(4 - (op+1)).toNat<(4 - op).toNat:=by omega
   rw[show (4 - op).toNat=(4 - (op+1)).toNat+1 by omega,pmK] at hQ'
   have hl:∀p:Pm,((o++[p]).length:Int)<=op+1:=fun p=>by rw[List.length_append,List.length_singleton];omega
   refine⟨⟨h2,by omega,by decide⟩,⟨fun c2=>?_,fun c2=>?_⟩⟩
   ·rw[if_pos (eq_of_beq c2)] at hQ'
    refine⟨⟨by omega,by omega,by omega⟩,⟨⟨by omega,by omega,by decide⟩,⟨⟨by omega,by omega,by decide⟩,⟨fun c3=>⟨by simp only[List.length_cons,List.length_nil];omega,⟨⟨by omega,by omega,by omega,by omega,h4,hl _⟩,hm⟩,?_⟩,fun c3=>⟨by simp only[List.length_cons,List.length_nil];omega,⟨⟨by omega,by omega,by omega,by omega,h4,hl _⟩,hm⟩,?_⟩⟩⟩⟩⟩
    ·rw[show b=true from c3,Bool.true_or] at hQ'
     exact hQ'
    ·rw[show b=false from c3,Bool.false_or] at hQ'
     exact hQ'
   ·rw[if_neg (ne_of_beq_false c2)] at hQ'
    exact⟨⟨⟨by omega,by omega,by omega,by omega,h4,by omega⟩,hm⟩,hQ'⟩
  ·have d1:¬ op<4:=dcF c1
   rw[show (4 - op).toNat=0 by omega,pmK] at hQ'
   exact hQ'
def L_SiteOf:Lay:={ slots:=[(0,.ptr 1 0)],boxes:=[(1,[.val tIs,.val tI])] }
def T_SiteOf_t(l:List Int)(k:Int):Tree MOut :=
 Tree.need (0<=k/\k<1099511627776/\(0:Int)<40) (.need (0<=k+1/\k+1<1099511627776/\(0:Int)<3) (.need (0<=k+1+1/\k+1+1<1099511627776/\(0:Int)<900) (.need (0<=k+1+1+1/\k+1+1+1<=500000000) (.need (0<=(vG l (k+1+1+1)).2/\(vG l (k+1+1+1)).2<1099511627776/\0<IntKind.i64.wrap (2+rnS l (k+1) 3)) (.need (0<=(vG l (k+1+1+1)).2+1/\(vG l (k+1+1+1)).2+1<1099511627776/\0<IntKind.i64.wrap (2+rnS l (k+1) 3)) (.cond (rnS l ((vG l (k+1+1+1)).2+1) (IntKind.i64.wrap (2+rnS l (k+1) 3)) != rnS l (vG l (k+1+1+1)).2 (IntKind.i64.wrap (2+rnS l (k+1) 3))) (.need (0<=(vG l (k+1+1+1)).2+1+1/\(vG l (k+1+1+1)).2+1+1<1099511627776/\(0:Int)<2) (.cond (rnS l ((vG l (k+1+1+1)).2+1+1) (2:Int)==0) (.need (inv_site0 ((),(),(),false,0,l,(vG l (k+1+1+1)).2+1+1+1,0,0,0,0,0,[],[],0,[],0,rnS l k 40,IntKind.i64.wrap (2+rnS l (k+1) 3),rnS l (vG l (k+1+1+1)).2 (IntKind.i64.wrap (2+rnS l (k+1) 3)),rnS l ((vG l (k+1+1+1)).2+1) (IntKind.i64.wrap (2+rnS l (k+1) 3)),rnS l (k+1+1) 900,(vS l (k+1+1+1)).1,(vS l (k+1+1+1)).2.1,(vS l (k+1+1+1)).2.2,[],(-1:Int),())) (.cond (pmK l (IntKind.i64.wrap (2+rnS l (k+1) 3)) (Int.toNat ((4:Int) - 0)) 0 ((vG l (k+1+1+1)).2+1+1+1) [] false).2.1 (.need (zB (vS l (k+1+1+1))=0) (.cond (!zQ (vS l (k+1+1+1)) (rnS l k 40) (rnS l (k+1+1) 900)) (.need (0<=(pmK l (IntKind.i64.wrap (2+rnS l (k+1) 3)) (Int.toNat ((4:Int) - 0)) 0 ((vG l (k+1+1+1)).2+1+1+1) [] false).2.2/\(pmK l (IntKind.i64.wrap (2+rnS l (k+1) 3)) (Int.toNat ((4:Int) - 0)) 0 ((vG l (k+1+1+1)).2+1+1+1) [] false).2.2<1099511627776/\0<IntKind.i64.wrap (rnS l k (40:Int)+1)) (.leaf { res:=.agg [.int .i64 (rnS l k 40),.int .i64 (IntKind.i64.wrap (2+rnS l (k+1) 3)),.int .i64 (rnS l (vG l (k+1+1+1)).2 (IntKind.i64.wrap (2+rnS l (k+1) 3))),.int .i64 (rnS l ((vG l (k+1+1+1)).2+1) (IntKind.i64.wrap (2+rnS l (k+1) 3))),.int .i64 (rnS l (k+1+1) 900),.sl (Ty.pair tI tV) (vS l (k+1+1+1)).1,.sl tIs (vS l (k+1+1+1)).2.1,.int .i64 (vS l (k+1+1+1)).2.2,.sl (Ty.pair tI (Ty.pair tI (Ty.pair tI Ty.bool))) (pmK l (IntKind.i64.wrap (2+rnS l (k+1) 3)) (Int.toNat ((4:Int) - 0)) 0 ((vG l (k+1+1+1)).2+1+1+1) [] false).1,.int .i64 (rnS l (pmK l (IntKind.i64.wrap (2+rnS l (k+1) 3)) (Int.toNat ((4:Int) - 0)) 0 ((vG l (k+1+1+1)).2+1+1+1) [] false).2.2 (IntKind.i64.wrap (rnS l k (40:Int)+1)))],boxes:=[[.sl tI l,.int .i64 ((pmK l (IntKind.i64.wrap (2+rnS l (k+1) 3)) (Int.toNat ((4:Int) - 0)) 0 ((vG l (k+1+1+1)).2+1+1+1) [] false).2.2+1)]] })) (.leaf { res:=.agg [.int .i64 (rnS l k 40),.int .i64 (IntKind.i64.wrap (2+rnS l (k+1) 3)),.int .i64 (rnS l (vG l (k+1+1+1)).2 (IntKind.i64.wrap (2+rnS l (k+1) 3))),.int .i64 (rnS l ((vG l (k+1+1+1)).2+1) (IntKind.i64.wrap (2+rnS l (k+1) 3))),.int .i64 (rnS l (k+1+1) 900),.sl (Ty.pair tI tV) (vS l (k+1+1+1)).1,.sl tIs (vS l (k+1+1+1)).2.1,.int .i64 (vS l (k+1+1+1)).2.2,.sl (Ty.pair tI (Ty.pair tI (Ty.pair tI Ty.bool))) (pmK l (IntKind.i64.wrap (2+rnS l (k+1) 3)) (Int.toNat ((4:Int) - 0)) 0 ((vG l (k+1+1+1)).2+1+1+1) [] false).1,.int .i64 (-1:Int)],boxes:=[[.sl tI l,.int .i64 (pmK l (IntKind.i64.wrap (2+rnS l (k+1) 3)) (Int.toNat ((4:Int) - 0)) 0 ((vG l (k+1+1+1)).2+1+1+1) [] false).2.2]] }))) (.leaf { res:=.agg [.int .i64 (rnS l k 40),.int .i64 (IntKind.i64.wrap (2+rnS l (k+1) 3)),.int .i64 (rnS l (vG l (k+1+1+1)).2 (IntKind.i64.wrap (2+rnS l (k+1) 3))),.int .i64 (rnS l ((vG l (k+1+1+1)).2+1) (IntKind.i64.wrap (2+rnS l (k+1) 3))),.int .i64 (rnS l (k+1+1) 900),.sl (Ty.pair tI tV) (vS l (k+1+1+1)).1,.sl tIs (vS l (k+1+1+1)).2.1,.int .i64 (vS l (k+1+1+1)).2.2,.sl (Ty.pair tI (Ty.pair tI (Ty.pair tI Ty.bool))) (pmK l (IntKind.i64.wrap (2+rnS l (k+1) 3)) (Int.toNat ((4:Int) - 0)) 0 ((vG l (k+1+1+1)).2+1+1+1) [] false).1,.int .i64 (-1:Int)],boxes:=[[.sl tI l,.int .i64 (pmK l (IntKind.i64.wrap (2+rnS l (k+1) 3)) (Int.toNat ((4:Int) - 0)) 0 ((vG l (k+1+1+1)).2+1+1+1) [] false).2.2]] }))) (.need (inv_site0 ((),(),(),false,0,l,(vG l (k+1+1+1)).2+1+1+1,0,0,0,0,0,[],[],0,[],0,rnS l k 40,IntKind.i64.wrap (2+rnS l (k+1) 3),rnS l (vG l (k+1+1+1)).2 (IntKind.i64.wrap (2+rnS l (k+1) 3)),(-1:Int),rnS l (k+1+1) 900,(vS l (k+1+1+1)).1,(vS l (k+1+1+1)).2.1,(vS l (k+1+1+1)).2.2,[],(-1:Int),())) (.cond (pmK l (IntKind.i64.wrap (2+rnS l (k+1) 3)) (Int.toNat ((4:Int) - 0)) 0 ((vG l (k+1+1+1)).2+1+1+1) [] false).2.1 (.need (zB (vS l (k+1+1+1))=0) (.cond (!zQ (vS l (k+1+1+1)) (rnS l k 40) (rnS l (k+1+1) 900)) (.need (0<=(pmK l (IntKind.i64.wrap (2+rnS l (k+1) 3)) (Int.toNat ((4:Int) - 0)) 0 ((vG l (k+1+1+1)).2+1+1+1) [] false).2.2/\(pmK l (IntKind.i64.wrap (2+rnS l (k+1) 3)) (Int.toNat ((4:Int) - 0)) 0 ((vG l (k+1+1+1)).2+1+1+1) [] false).2.2<1099511627776/\0<IntKind.i64.wrap (rnS l k (40:Int)+1)) (.leaf { res:=.agg [.int .i64 (rnS l k 40),.int .i64 (IntKind.i64.wrap (2+rnS l (k+1) 3)),.int .i64 (rnS l (vG l (k+1+1+1)).2 (IntKind.i64.wrap (2+rnS l (k+1) 3))),.int .i64 (-1:Int),.int .i64 (rnS l (k+1+1) 900),.sl (Ty.pair tI tV) (vS l (k+1+1+1)).1,.sl tIs (vS l (k+1+1+1)).2.1,.int .i64 (vS l (k+1+1+1)).2.2,.sl (Ty.pair tI (Ty.pair tI (Ty.pair tI Ty.bool))) (pmK l (IntKind.i64.wrap (2+rnS l (k+1) 3)) (Int.toNat ((4:Int) - 0)) 0 ((vG l (k+1+1+1)).2+1+1+1) [] false).1,.int .i64 (rnS l (pmK l (IntKind.i64.wrap (2+rnS l (k+1) 3)) (Int.toNat ((4:Int) - 0)) 0 ((vG l (k+1+1+1)).2+1+1+1) [] false).2.2 (IntKind.i64.wrap (rnS l k (40:Int)+1)))],boxes:=[[.sl tI l,.int .i64 ((pmK l (IntKind.i64.wrap (2+rnS l (k+1) 3)) (Int.toNat ((4:Int) - 0)) 0 ((vG l (k+1+1+1)).2+1+1+1) [] false).2.2+1)]] })) (.leaf { res:=.agg [.int .i64 (rnS l k 40),.int .i64 (IntKind.i64.wrap (2+rnS l (k+1) 3)),.int .i64 (rnS l (vG l (k+1+1+1)).2 (IntKind.i64.wrap (2+rnS l (k+1) 3))),.int .i64 (-1:Int),.int .i64 (rnS l (k+1+1) 900),.sl (Ty.pair tI tV) (vS l (k+1+1+1)).1,.sl tIs (vS l (k+1+1+1)).2.1,.int .i64 (vS l (k+1+1+1)).2.2,.sl (Ty.pair tI (Ty.pair tI (Ty.pair tI Ty.bool))) (pmK l (IntKind.i64.wrap (2+rnS l (k+1) 3)) (Int.toNat ((4:Int) - 0)) 0 ((vG l (k+1+1+1)).2+1+1+1) [] false).1,.int .i64 (-1:Int)],boxes:=[[.sl tI l,.int .i64 (pmK l (IntKind.i64.wrap (2+rnS l (k+1) 3)) (Int.toNat ((4:Int) - 0)) 0 ((vG l (k+1+1+1)).2+1+1+1) [] false).2.2]] }))) (.leaf { res:=.agg [.int .i64 (rnS l k 40),.int .i64 (IntKind.i64.wrap (2+rnS l (k+1) 3)),.int .i64 (rnS l (vG l (k+1+1+1)).2 (IntKind.i64.wrap (2+rnS l (k+1) 3))),.int .i64 (-1:Int),.int .i64 (rnS l (k+1+1) 900),.sl (Ty.pair tI tV) (vS l (k+1+1+1)).1,.sl tIs (vS l (k+1+1+1)).2.1,.int .i64 (vS l (k+1+1+1)).2.2,.sl (Ty.pair tI (Ty.pair tI (Ty.pair tI Ty.bool))) (pmK l (IntKind.i64.wrap (2+rnS l (k+1) 3)) (Int.toNat ((4:Int) - 0)) 0 ((vG l (k+1+1+1)).2+1+1+1) [] false).1,.int .i64 (-1:Int)],boxes:=[[.sl tI l,.int .i64 (pmK l (IntKind.i64.wrap (2+rnS l (k+1) 3)) (Int.toNat ((4:Int) - 0)) 0 ((vG l (k+1+1+1)).2+1+1+1) [] false).2.2]] }))))) (.need (inv_site0 ((),(),(),false,0,l,(vG l (k+1+1+1)).2+1+1,0,0,0,0,0,[],[],0,[],0,rnS l k 40,IntKind.i64.wrap (2+rnS l (k+1) 3),rnS l (vG l (k+1+1+1)).2 (IntKind.i64.wrap (2+rnS l (k+1) 3)),(-1:Int),rnS l (k+1+1) 900,(vS l (k+1+1+1)).1,(vS l (k+1+1+1)).2.1,(vS l (k+1+1+1)).2.2,[],(-1:Int),())) (.cond (pmK l (IntKind.i64.wrap (2+rnS l (k+1) 3)) (Int.toNat ((4:Int) - 0)) 0 ((vG l (k+1+1+1)).2+1+1) [] false).2.1 (.need (zB (vS l (k+1+1+1))=0) (.cond (!zQ (vS l (k+1+1+1)) (rnS l k 40) (rnS l (k+1+1) 900)) (.need (0<=(pmK l (IntKind.i64.wrap (2+rnS l (k+1) 3)) (Int.toNat ((4:Int) - 0)) 0 ((vG l (k+1+1+1)).2+1+1) [] false).2.2/\(pmK l (IntKind.i64.wrap (2+rnS l (k+1) 3)) (Int.toNat ((4:Int) - 0)) 0 ((vG l (k+1+1+1)).2+1+1) [] false).2.2<1099511627776/\0<IntKind.i64.wrap (rnS l k (40:Int)+1)) (.leaf { res:=.agg [.int .i64 (rnS l k 40),.int .i64 (IntKind.i64.wrap (2+rnS l (k+1) 3)),.int .i64 (rnS l (vG l (k+1+1+1)).2 (IntKind.i64.wrap (2+rnS l (k+1) 3))),.int .i64 (-1:Int),.int .i64 (rnS l (k+1+1) 900),.sl (Ty.pair tI tV) (vS l (k+1+1+1)).1,.sl tIs (vS l (k+1+1+1)).2.1,.int .i64 (vS l (k+1+1+1)).2.2,.sl (Ty.pair tI (Ty.pair tI (Ty.pair tI Ty.bool))) (pmK l (IntKind.i64.wrap (2+rnS l (k+1) 3)) (Int.toNat ((4:Int) - 0)) 0 ((vG l (k+1+1+1)).2+1+1) [] false).1,.int .i64 (rnS l (pmK l (IntKind.i64.wrap (2+rnS l (k+1) 3)) (Int.toNat ((4:Int) - 0)) 0 ((vG l (k+1+1+1)).2+1+1) [] false).2.2 (IntKind.i64.wrap (rnS l k (40:Int)+1)))],boxes:=[[.sl tI l,.int .i64 ((pmK l (IntKind.i64.wrap (2+rnS l (k+1) 3)) (Int.toNat ((4:Int) - 0)) 0 ((vG l (k+1+1+1)).2+1+1) [] false).2.2+1)]] })) (.leaf { res:=.agg [.int .i64 (rnS l k 40),.int .i64 (IntKind.i64.wrap (2+rnS l (k+1) 3)),.int .i64 (rnS l (vG l (k+1+1+1)).2 (IntKind.i64.wrap (2+rnS l (k+1) 3))),.int .i64 (-1:Int),.int .i64 (rnS l (k+1+1) 900),.sl (Ty.pair tI tV) (vS l (k+1+1+1)).1,.sl tIs (vS l (k+1+1+1)).2.1,.int .i64 (vS l (k+1+1+1)).2.2,.sl (Ty.pair tI (Ty.pair tI (Ty.pair tI Ty.bool))) (pmK l (IntKind.i64.wrap (2+rnS l (k+1) 3)) (Int.toNat ((4:Int) - 0)) 0 ((vG l (k+1+1+1)).2+1+1) [] false).1,.int .i64 (-1:Int)],boxes:=[[.sl tI l,.int .i64 (pmK l (IntKind.i64.wrap (2+rnS l (k+1) 3)) (Int.toNat ((4:Int) - 0)) 0 ((vG l (k+1+1+1)).2+1+1) [] false).2.2]] }))) (.leaf { res:=.agg [.int .i64 (rnS l k 40),.int .i64 (IntKind.i64.wrap (2+rnS l (k+1) 3)),.int .i64 (rnS l (vG l (k+1+1+1)).2 (IntKind.i64.wrap (2+rnS l (k+1) 3))),.int .i64 (-1:Int),.int .i64 (rnS l (k+1+1) 900),.sl (Ty.pair tI tV) (vS l (k+1+1+1)).1,.sl tIs (vS l (k+1+1+1)).2.1,.int .i64 (vS l (k+1+1+1)).2.2,.sl (Ty.pair tI (Ty.pair tI (Ty.pair tI Ty.bool))) (pmK l (IntKind.i64.wrap (2+rnS l (k+1) 3)) (Int.toNat ((4:Int) - 0)) 0 ((vG l (k+1+1+1)).2+1+1) [] false).1,.int .i64 (-1:Int)],boxes:=[[.sl tI l,.int .i64 (pmK l (IntKind.i64.wrap (2+rnS l (k+1) 3)) (Int.toNat ((4:Int) - 0)) 0 ((vG l (k+1+1+1)).2+1+1) [] false).2.2]] })))))))))
theorem T_SiteOf(l:List Int)(k:Int):jG (P:=P) [xM.gc,c_HouseOf.gc,c_rHolds.gc] (zH [(0,R_site0)]) Tryz.f13 L_SiteOf false ((),l,k,())=T_SiteOf_t l k:=by kernel_rfl
abbrev AuY2:Type:=Unit×List Int×Int×Unit
def kF:AuY2->Prop:=fun(_,_,k,_)=>0<=k/\k<=400000000
def N_SiteOf:AuY2->zE×Int->MOut:=fun(_,l,k,_) b=>⟨.agg (siteA b.1),[[.sl tI l,.int .i64 b.2]],[]⟩
def Z_SiteOf:AuY2->zE×Int->Prop:=fun(_,l,k,_) b=>SiteV b.1/\k<=b.2/\b.2<=k+1000
theorem X_SiteOf:∃f:AuY2->zE×Int,∀a,kF a->(fun a b=>qV P 13 L_SiteOf a (N_SiteOf a b)/\Z_SiteOf a b) a (f a):=by
 refine choose_val (α:=AuY2) (β:=zE×Int) (pr:=kF) (R:=fun a b=>qV P 13 L_SiteOf a (N_SiteOf a b)/\Z_SiteOf a b) ?_
 rintro⟨⟨⟩,l,k,⟨⟩⟩ hp
 have key:(T_SiteOf_t l k).holds (fun s=>∃b,s=N_SiteOf ((),l,k,()) b/\Z_SiteOf ((),l,k,()) b):=by
  unfold T_SiteOf_t
  obtain⟨p0,p1⟩:0<=k/\k<=400000000:=hp
  have r1:=vA (l:=l) (k:=k) (n:=40) p0 (by decide)
  have r2:=vA (l:=l) (k:=k+1) (n:=3) (by omega) (by decide)
  have r3:=vA (l:=l) (k:=k+1+1) (n:=900) (by omega) (by decide)
  rw[jZ (n:=2+rnS l (k+1) 3) (by omega) (by omega),jZ (n:=rnS l k 40+1) (by omega) (by omega)]
  obtain⟨⟨a1,a2⟩,a3,a4,a5,a6,a7⟩:=houK_ok l (k:=k+1+1+1) (by omega)
  have hh:=houK_house l (k:=k+1+1+1) (by omega)
  have c1:1<=2+rnS l (k+1) 3:=by omega
  have c2:2+rnS l (k+1) 3<=4:=by omega
  have r4:=vA (l:=l) (k:=(vG l (k+1+1+1)).2) (n:=2+rnS l (k+1) 3) (by omega) (by omega)
  have r5:=vA (l:=l) (k:=(vG l (k+1+1+1)).2+1) (n:=2+rnS l (k+1) 3) (by omega) (by omega)
  rw[show Int.toNat (4 - 0)=4 from rfl]
  have pm:=fun(k3:Int) (h:0<=k3)=>pmK_ok l (crew:=2+rnS l (k+1) 3) ⟨c1,by omega⟩ 4 0 k3 [] false (by decide) (by decide) h ⟨rfl,(fun x hx=>by cases hx),rfl,rfl,by decide⟩
  have hinv:∀(c k3:Int),0<=k3->k3<=900000000->inv_site0 ((),(),(),false,0,l,k3,0,0,0,0,0,[],[],0,[],0,rnS l k 40,2+rnS l (k+1) 3,rnS l (vG l (k+1+1+1)).2 (2+rnS l (k+1) 3),c,rnS l (k+1+1) 900,(vS l (k+1+1+1)).1,(vS l (k+1+1+1)).2.1,(vS l (k+1+1+1)).2.2,[],-1,()):=fun c k3 h1 h2=>⟨by decide,by decide,h1,by omega,⟨c1,by omega⟩,by decide⟩
  generalize hC:2+rnS l (k+1) 3=C at *
  generalize hT:rnS l k 40=T at *
  generalize hP:rnS l (k+1+1) 900=Pr at *
  generalize hHO:vS l (k+1+1+1)=HO at *
  generalize hkv:(vG l (k+1+1+1)).2=kv at *
  generalize hH:rnS l kv C=Hd at *
  generalize hO:rnS l (kv+1) C=O at *
  obtain⟨els,envs,nd⟩:=HO
  have V:∀(off k3 br:Int),(off = -1\/(0<=off/\off<C/\off≠Hd))->0<=k3->((br = -1/\((pmK l C 4 0 k3 [] false).2.1=false\/zQ (els,envs,nd) T Pr=true))\/((pmK l C 4 0 k3 [] false).2.1=true/\zQ (els,envs,nd) T Pr=false/\0<=br/\br<=T))->SiteV (T,C,Hd,off,Pr,(els,envs,nd),(pmK l C 4 0 k3 [] false).1,br):=by
   intro off k3 br h1 h2 h3
   obtain⟨⟨g1,g2,g3,g4,g5⟩,_,_⟩:=pm k3 h2
   generalize (pmK l C 4 0 k3 [] false).1=P1 at *
   generalize (pmK l C 4 0 k3 [] false).2.1=B1 at *
   have kp:jM (T,C,Hd,off,Pr,(els,envs,nd),P1,br) T=(!B1||zQ (els,envs,nd) T Pr):=by
    unfold jM wK
    dsimp only
    rw[g4]
   have hl:P1.length<=16:=by omega
   refine chkS_site (chkS_of ?_ hh hl g1 g3 ?_)
   ·unfold xW vB wi
    dsimp only
    rw[decide_eq_true (show (0:Int)<=T by omega),decide_eq_true (show T<=1099511627776 by omega),decide_eq_false (show ¬ C<1 by omega),decide_eq_false (show ¬ C>20 by omega),decide_eq_true (show Hd>=0 by omega),decide_eq_true (show Hd<C by omega),decide_eq_true (show (0:Int)<=Pr by omega),decide_eq_true (show Pr<=68719476736 by omega)]
    rcases h1 with rfl |⟨q1,q2,q3⟩
    ·rw[show ((-1:Int) != -1)=false from rfl,show ((-1:Int)==Hd)=false from beq_eq_false_iff_ne.2 (by omega)];rfl
    ·rw[decide_eq_true (show off>=0 by omega),decide_eq_true q2,show (off==Hd)=false from beq_eq_false_iff_ne.2 q3,Bool.and_self,Bool.not_true,Bool.and_false];rfl
   ·show (jM (T,C,Hd,off,Pr,(els,envs,nd),P1,br) T=true->br = -1)/\(jM (T,C,Hd,off,Pr,(els,envs,nd),P1,br) T=false->wi br 0 T=true)
    rw[kp]
    rcases h3 with⟨q1,q2⟩ |⟨q1,q2,q3,q4⟩
    ·refine⟨fun _=>q1,fun h=>?_⟩
     rcases q2 with q2 |q2<;>rw[q2] at h<;>simp at h
    ·rw[q1,q2]
     exact⟨fun h=>(by cases h),fun _=>qZ.2 ⟨q3,q4⟩⟩
  have fin:∀(off k3 br k' : Int),(off = -1\/(0<=off/\off<C/\off≠Hd))->kv<=k3->k3<=kv+10->((br = -1/\((pmK l C 4 0 k3 [] false).2.1=false\/zQ (els,envs,nd) T Pr=true))\/((pmK l C 4 0 k3 [] false).2.1=true/\zQ (els,envs,nd) T Pr=false/\0<=br/\br<=T))->(k'=(pmK l C 4 0 k3 [] false).2.2\/k'=(pmK l C 4 0 k3 [] false).2.2+1)->∃b,(⟨.agg (siteA (T,C,Hd,off,Pr,(els,envs,nd),(pmK l C 4 0 k3 [] false).1,br)),[[.sl tI l,.int .i64 k']],[]⟩:MOut)=N_SiteOf ((),l,k,()) b/\Z_SiteOf ((),l,k,()) b:=by
   intro off k3 br k' h1 h2 h4 h5 h6
   obtain⟨_,g6,g7⟩:=pm k3 (by omega)
   exact⟨((T,C,Hd,off,Pr,(els,envs,nd),(pmK l C 4 0 k3 [] false).1,br),k'),rfl,V off k3 br h1 (by omega) h5,by show k<=k';omega,by show k'<=k+1000;omega⟩
  have pmr:=fun(k3:Int) (h:0<=k3)=>(pm k3 h).2
  refine⟨⟨by omega,by omega,by decide⟩,⟨⟨by omega,by omega,by decide⟩,⟨⟨by omega,by omega,by decide⟩,⟨⟨by omega,by omega⟩,⟨⟨by omega,by omega,by omega⟩,⟨⟨by omega,by omega,by omega⟩,?_⟩⟩⟩⟩⟩⟩
  refine⟨fun d1=>⟨⟨by omega,by omega,by decide⟩,⟨fun d2=>?_,fun d2=>?_⟩⟩,fun d1=>?_⟩
  ·have e1:O = -1\/(0<=O/\O<C/\O≠Hd):=.inr ⟨r5.1,r5.2,zAi d1⟩
   have q:=pmr (kv+1+1+1) (by omega)
   refine⟨hinv _ _ (by omega) (by omega),⟨fun d3=>⟨hh,⟨fun d4=>⟨⟨by omega,by omega,by omega⟩,?_⟩,fun d4=>?_⟩⟩,fun d3=>?_⟩⟩
   ·have r6:=vA (l:=l) (k:=(pmK l C 4 0 (kv+1+1+1) [] false).2.2) (n:=T+1) (by omega) (by omega)
    exact fin O (kv+1+1+1) (rnS l (pmK l C 4 0 (kv+1+1+1) [] false).2.2 (T+1)) _ e1 (by omega) (by omega) (.inr ⟨d3,xP d4,by omega,by omega⟩) (.inr rfl)
   ·exact fin O _ _ _ e1 (by omega) (by omega) (.inl ⟨rfl,.inr (qR d4)⟩) (.inl rfl)
   ·exact fin O _ _ _ e1 (by omega) (by omega) (.inl ⟨rfl,.inl d3⟩) (.inl rfl)
  ·have q:=pmr (kv+1+1+1) (by omega)
   refine⟨hinv _ _ (by omega) (by omega),⟨fun d3=>⟨hh,⟨fun d4=>⟨⟨by omega,by omega,by omega⟩,?_⟩,fun d4=>?_⟩⟩,fun d3=>?_⟩⟩
   ·have r6:=vA (l:=l) (k:=(pmK l C 4 0 (kv+1+1+1) [] false).2.2) (n:=T+1) (by omega) (by omega)
    exact fin (-1) (kv+1+1+1) (rnS l (pmK l C 4 0 (kv+1+1+1) [] false).2.2 (T+1)) _ (.inl rfl) (by omega) (by omega) (.inr ⟨d3,xP d4,by omega,by omega⟩) (.inr rfl)
   ·exact fin (-1) _ _ _ (.inl rfl) (by omega) (by omega) (.inl ⟨rfl,.inr (qR d4)⟩) (.inl rfl)
   ·exact fin (-1) _ _ _ (.inl rfl) (by omega) (by omega) (.inl ⟨rfl,.inl d3⟩) (.inl rfl)
  ·have q:=pmr (kv+1+1) (by omega)
   refine⟨hinv _ _ (by omega) (by omega),⟨fun d3=>⟨hh,⟨fun d4=>⟨⟨by omega,by omega,by omega⟩,?_⟩,fun d4=>?_⟩⟩,fun d3=>?_⟩⟩
   ·have r6:=vA (l:=l) (k:=(pmK l C 4 0 (kv+1+1) [] false).2.2) (n:=T+1) (by omega) (by omega)
    exact fin (-1) (kv+1+1) (rnS l (pmK l C 4 0 (kv+1+1) [] false).2.2 (T+1)) _ (.inl rfl) (by omega) (by omega) (.inr ⟨d3,xP d4,by omega,by omega⟩) (.inr rfl)
   ·exact fin (-1) _ _ _ (.inl rfl) (by omega) (by omega) (.inl ⟨rfl,.inr (qR d4)⟩) (.inl rfl)
   ·exact fin (-1) _ _ _ (.inl rfl) (by omega) (by omega) (.inl ⟨rfl,.inl d3⟩) (.inl rfl)
 obtain⟨s,⟨b,hs,hb⟩,h⟩:=m_rel hm (own:=false) (by kernel_rfl) (by kernel_rfl) (by kernel_rfl) (T_SiteOf l k) ⟨K_site0,trivial⟩ key
 subst hs
 exact⟨b,h,hb⟩
def yT:AuY2->zE×Int:=Classical.choose X_SiteOf
theorem S_SiteOf:∀a,kF a->Z_SiteOf a (yT a):=fun a h=>((Classical.choose_spec X_SiteOf) a h).2
def c_SiteOf:MC P:=MC.of (α:=AuY2) 13 L_SiteOf (fun x=>x) (fun x=>x) (fun _=>rfl) (fun a=>some (kF a)) (fun a=>N_SiteOf a (yT a)) (by kernel_rfl) (by kernel_rfl) (by kernel_rfl) (fun a h=>((Classical.choose_spec X_SiteOf) a h).1)
end
end Go.MB
