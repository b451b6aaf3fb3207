/- What the laws are made with: numbers, copies, equal sites. -/
import Derived.Test.YtfhomgggbhjglaaGreatMuH
namespace Go.MB
open Go Go.Sx Go.Proofs
set_option linter.unusedVariables false
set_option linter.unusedSimpArgs false
noncomputable section
def R64(n:Int):Prop:=-9223372036854775808<=n/\n<=9223372036854775807
theorem tmod_pos{a b:Int}(hb:0<b):Int.tmod a b=a % b\/(Int.tmod a b=a % b - b/\a<0):=by
 rw[Int.tmod_eq_emod]
 split
 ·left;omega
 ·right
  have:(b.natAbs:Int)=b:=by omega
  exact⟨by omega,by omega⟩
theorem T_Mod(a b:Int):jD (P:=P) [] (zH []) Tryz.f28 (z_ 0 [.val tI,.val tI] (a,b,())) =
 Tree.need (b≠0) (.cond (decide (Int.tmod a b<0)) (.leaf (.int .i64 (IntKind.i64.wrap (Int.tmod a b+b)))) (.leaf (.int .i64 (Int.tmod a b)))):=by kernel_rfl
def c_Mod:PC P:=PC.of (α:=Int×Int×Unit) 28 [.val tI,.val tI] (fun x=>x) (fun x=>x) (fun _=>rfl)
 (fun x=>some (0<x.2.1/\R64 x.2.1))
 (fun x=>.int .i64 (x.1 % x.2.1)) (by kernel_rfl) (by
  rintro⟨a,b,⟨⟩⟩ hp
  refine yK hm (by kernel_rfl) (by kernel_rfl) (T_Mod a b) trivial ?_
  obtain⟨h0,h1,h2⟩:0<b/\R64 b:=hp
  have h3:=Int.emod_nonneg a (show b≠0 by omega)
  have h4:=Int.emod_lt_of_pos a h0
  refine⟨by omega,fun h=>?_,fun h=>?_⟩
  ·simp only[decide_eq_true_eq] at h
   show SV.int .i64 _=SV.int .i64 (a % b)
   rcases tmod_pos (a:=a) h0 with e |⟨e,_⟩
   ·omega
   ·rw[e,jZ (by omega) (by omega)];congr 1;omega
  ·simp only[decide_eq_false_iff_not] at h
   show SV.int .i64 _=SV.int .i64 (a % b)
   rcases tmod_pos (a:=a) h0 with e |⟨e,_⟩
   ·rw[e]
   ·omega)
def rnX(l:List Int)(k:Int):Int:=(k*7919) % 10007+(if 0<(l.length:Int) then (l.getD (k % l.length).toNat 0 % 1048576) / (1+k / l.length) else 0)
def rnS(l:List Int)(at' n:Int):Int:=rnX l (at'+1) % n
theorem vA{l:List Int}{k n:Int}(h:0<=k) (hn:0<n):0<=rnS l k n/\rnS l k n<n :=
 ⟨Int.emod_nonneg _ (by omega),Int.emod_lt_of_pos _ hn⟩
def L_RNext:Lay:={ slots:=[(0,.ptr 1 0),(1,.val tI)],boxes:=[(1,[.val tIs,.val tI])] }
theorem T_RNext(n:Int)(l:List Int)(k:Int):jG (P:=P) [c_Mod.gc] (zH []) Tryz.f48 L_RNext true ((),n,l,k,()) =
 Tree.need ((10007:Int)≠0) (.cond (decide ((l.length:Int)>0)) (.need ((l.length:Int)≠0) (.need (0<=Int.tmod (IntKind.i64.wrap (k+1)) (l.length:Int)/\Int.tmod (IntKind.i64.wrap (k+1)) (l.length:Int)<(l.length:Int)) (.need ((0:Int)<1048576/\R64 1048576) (.need ((l.length:Int)≠0) (.need (IntKind.i64.wrap (1+IntKind.i64.wrap (Int.tdiv (IntKind.i64.wrap (k+1)) (l.length:Int)))≠0) (.need (n≠0) (.leaf { res:=.int .i64 (Int.tmod (IntKind.i64.wrap (Int.tmod (IntKind.i64.wrap (IntKind.i64.wrap (k+1)*7919)) 10007+IntKind.i64.wrap (Int.tdiv (List.getD l (Int.toNat (Int.tmod (IntKind.i64.wrap (k+1)) (l.length:Int))) (0:Int) % 1048576) (IntKind.i64.wrap (1+IntKind.i64.wrap (Int.tdiv (IntKind.i64.wrap (k+1)) (l.length:Int))))))) n),boxes:=[[.sl tI l,.int .i64 (IntKind.i64.wrap (k+1))]] }))))))) (.need (n≠0) (.leaf { res:=.int .i64 (Int.tmod (Int.tmod (IntKind.i64.wrap (IntKind.i64.wrap (k+1)*7919)) 10007) n),boxes:=[[.sl tI l,.int .i64 (IntKind.i64.wrap (k+1))]] }))):=by kernel_rfl
def xM:MC P:=MC.of (α:=Unit×Int×List Int×Int×Unit) 48 L_RNext (fun x=>x) (fun x=>x) (fun _=>rfl)
 (fun(_,n,_,k,_)=>some (0<=k/\k<1099511627776/\0<n))
 (fun(_,n,l,k,_)=>⟨.int .i64 (rnS l k n),[[.sl tI l,.int .i64 (k+1)]],[]⟩) (by kernel_rfl) (by kernel_rfl) (by kernel_rfl) (by
  rintro⟨⟨⟩,n,l,k,⟨⟩⟩ hp
  refine yG hm (own:=true) (by kernel_rfl) (by kernel_rfl) (by kernel_rfl) (T_RNext n l k) trivial ?_
  obtain⟨h0,h1,h2⟩:0<=k/\k<1099511627776/\0<n:=hp
  show Tree.holds (fun s=>s=(⟨.int .i64 (rnS l k n),[[.sl tI l,.int .i64 (k+1)]],[]⟩:MOut)) _
  have e0:=Int.tmod_eq_emod_of_nonneg (show 0<=(k+1)*7919 by omega) (b:=10007)
  have r1:=Int.emod_nonneg ((k+1)*7919) (show (10007:Int)≠0 by decide)
  have r2:=Int.emod_lt_of_pos ((k+1)*7919) (show (0:Int)<10007 by decide)
  rw[jZ (n:=k+1) (by omega) (by omega),jZ (n:=(k+1)*7919) (by omega) (by omega),e0]
  refine⟨by decide,fun hl=>?_,fun hl=>?_⟩
  ·simp only[gt_iff_lt,decide_eq_true_eq] at hl
   have e1:=Int.tmod_eq_emod_of_nonneg (show 0<=k+1 by omega) (b:=(l.length:Int))
   have e2:=Int.tdiv_eq_ediv_of_nonneg (show 0<=k+1 by omega) (b:=(l.length:Int))
   have q1:0<=(k+1) / (l.length:Int):=Int.ediv_nonneg (by omega) (by omega)
   have q2:=Int.ediv_le_self (l.length:Int) (show 0<=k+1 by omega)
   have m1:=Int.emod_nonneg (k+1) (show (l.length:Int)≠0 by omega)
   have m2:=Int.emod_lt_of_pos (k+1) hl
   rw[e1,e2]
   generalize hg:l.getD ((k+1) % (l.length:Int)).toNat 0=g at *
   have C:=Int.emod_nonneg g (show (1048576:Int)≠0 by decide)
   have D:=Int.emod_lt_of_pos g (show (0:Int)<1048576 by decide)
   have e3:=Int.tdiv_eq_ediv_of_nonneg C (b:=1+(k+1) / (l.length:Int))
   have E:=Int.ediv_nonneg C (show 0<=1+(k+1) / (l.length:Int) by omega)
   have F:=Int.ediv_le_self (1+(k+1) / (l.length:Int)) C
   rw[jZ (n:=(k+1) / (l.length:Int)) (by omega) (by omega),jZ (n:=1+(k+1) / (l.length:Int)) (by omega) (by omega),e3,jZ (n:=g % 1048576 / (1+(k+1) / (l.length:Int))) (by omega) (by omega),
    jZ (n:=(k+1)*7919 % 10007+g % 1048576 / (1+(k+1) / (l.length:Int))) (by omega) (by omega),Int.tmod_eq_emod_of_nonneg (by omega)]
   refine⟨by omega,⟨m1,m2⟩,⟨by decide,by decide,by decide⟩,by omega,by omega,by omega,?_⟩
   show MOut.mk _ _ _=_
   unfold rnS rnX
   rw[if_pos hl,hg]
  ·simp only[gt_iff_lt,decide_eq_false_iff_not] at hl
   rw[Int.tmod_eq_emod_of_nonneg (by omega)]
   refine⟨by omega,?_⟩
   show MOut.mk _ _ _=_
   unfold rnS rnX
   rw[if_neg hl,Int.add_zero])
def L_NewRing:Lay:={ slots:=[(0,.val tIs)] }
theorem T_NewRing(l:List Int):jG (P:=P) [] (zH []) Tryz.f12 L_NewRing true (l,()) =
 Tree.leaf { res:=SV.ptr 100 0,boxes:=[],news:=[Ob.box [.sl tI l,.int .i64 0]] }:=by kernel_rfl
def c_NewRing:MC P:=MC.of (α:=List Int×Unit) 12 L_NewRing (fun x=>x) (fun x=>x) (fun _=>rfl)
 (fun _=>none)
 (fun(l,_)=>⟨.ptr 100 0,[],[.box [.sl tI l,.int .i64 0]]⟩) (by kernel_rfl) (by kernel_rfl) (by kernel_rfl) (by
  rintro⟨l,⟨⟩⟩ hp
  refine yG hm (own:=true) (by kernel_rfl) (by kernel_rfl) (by kernel_rfl) (T_NewRing l) trivial ?_
  exact rfl)
theorem take_step{α:Type}(d:α) {l:List α}{i:Int}(h0:0<=i) (h:i<l.length):l.take i.toNat++[l.getD i.toNat d]=l.take (i+1).toNat:=by
 have h1:i.toNat<l.length:=by omega
 rw[show (i+1).toNat=i.toNat+1 by omega,List.take_add_one,List.getD_eq_getElem?_getD,List.getElem?_eq_getElem h1]
 rfl
def sameH(a b:Hs):Bool:=decide (a.1=b.1)&&(decide (a.2.1=b.2.1)&&decide (a.2.2=b.2.2))
def sameB(a b:zE):Bool:=decide (a.1=b.1)&&(decide (a.2.1=b.2.1)&&(decide (a.2.2.1=b.2.2.1)&&(decide (a.2.2.2.1=b.2.2.2.1)&&(decide (a.2.2.2.2.1=b.2.2.2.2.1)&&(sameH a.2.2.2.2.2.1 b.2.2.2.2.2.1&&(decide (a.2.2.2.2.2.2.1=b.2.2.2.2.2.2.1)&&decide (a.2.2.2.2.2.2.2=b.2.2.2.2.2.2.2)))))))
theorem sameB_iff{a b:zE}:sameB a b=true↔a=b:=by
 obtain⟨a0,a1,a2,a3,a4,⟨a5,a6,a7⟩,a8,a9⟩:=a
 obtain⟨b0,b1,b2,b3,b4,⟨b5,b6,b7⟩,b8,b9⟩:=b
 unfold sameB sameH
 simp
def bigH(h:Hs):Bool:=decide ((h.1.length:Int)>12)||(decide ((h.2.1.length:Int)>10)||h.2.1.any fun q=>decide ((q.length:Int)>12))
theorem e4_eq(x y:E4):(x.1==y.1&&(x.2.1==y.2.1&&(x.2.2.1==y.2.2.1&&(x.2.2.2==y.2.2.2&&true))))=decide (x=y):=by
 obtain⟨a,b,c,d⟩:=x
 obtain⟨e,f,g,h⟩:=y
 rw[Bool.eq_iff_iff]
 simp
theorem pm_eq(x y:Pm):(x.1==y.1&&(x.2.1==y.2.1&&(x.2.2.1==y.2.2.1&&(x.2.2.2==y.2.2.2&&true))))=decide (x=y):=by
 obtain⟨a,b,c,d⟩:=x
 obtain⟨e,f,g,h⟩:=y
 rw[Bool.eq_iff_iff]
 simp
def L_rCopy0:Lay:={ slots:=[(1,.ptr 2040 0),(2,.ptr 3040 0),(3,.ptr 4040 0),(4,.val tI)],boxes:=[(2040,[.val tI,.val tI,.val tI,.val tI,.val tI,.val (.sl (.pair tI tV)),.val (.sl tIs),.val tI,.val (.sl (.pair tI (.pair tI (.pair tI .bool)))),.val tI]),(3040,[.val tI,.val tI,.val tI,.val tI,.val tI,.val (.sl (.pair tI tV)),.val (.sl tIs),.val tI,.val (.sl (.pair tI (.pair tI (.pair tI .bool)))),.val tI]),(4040,[.row 47 (.pair tI tV),.row 31 tIs,.val tI])] }
def L_rCopy0_0:Lay:={ slots:=[(1,.ptr 2040 0),(2,.ptr 3040 0),(3,.ptr 4040 0)],boxes:=[(2040,[.val tI,.val tI,.val tI,.val tI,.val tI,.val (.sl (.pair tI tV)),.val (.sl tIs),.val tI,.val (.sl (.pair tI (.pair tI (.pair tI .bool)))),.val tI]),(3040,[.val tI,.val tI,.val tI,.val tI,.val tI,.val (.sl (.pair tI tV)),.val (.sl tIs),.val tI,.val (.sl (.pair tI (.pair tI (.pair tI .bool)))),.val tI]),(4040,[.row 47 (.pair tI tV),.row 31 tIs,.val tI])] }
def X_rCopy0:Exit->St->Option Lay
 |.exit 0,_=>some L_rCopy0_0
 |_,_=>none
abbrev C_rCopy0:Code:=jH (zJ Tryz.f15) 0
abbrev AuI2:Type:=Unit×Unit×Unit×Int×Int×Int×Int×Int×Int×List (Int×V)×List (List Int)×Int×List (Int×(Int×(Int×Bool)))×Int×Int×Int×Int×Int×Int×List (Int×V)×List (List Int)×Int×List (Int×(Int×(Int×Bool)))×Int×List (Int×V)×List (List Int)×Int×Unit
theorem B_rCopy0(i qI gH qH qG qF:Int)(qE:List (Int×V))(envs:List (List Int))(qD:Int)(kZ:List (Int×(Int×(Int×Bool))))(qC b2_0 b2_1 b2_2 b2_3 b2_4:Int)(b2_5:List (Int×V))(b2_6:List (List Int))(b2_7:Int)(b2_8:List (Int×(Int×(Int×Bool))))(b2_9:Int)(els:List (Int×V))(out:List (List Int))(b3_2:Int):zF (P:=P) [] (zH []) [] 40 noU (jI C_rCopy0) L_rCopy0 X_rCopy0 (α:=AuI2) (fun x=>x) (fun x=>x) ((),(),(),i,qI,gH,qH,qG,qF,qE,envs,qD,kZ,qC,b2_0,b2_1,b2_2,b2_3,b2_4,b2_5,b2_6,b2_7,b2_8,b2_9,els,out,b3_2,()) =
 Tree.cond (decide (i<(envs.length:Int))) (.need (0<=i/\i<(envs.length:Int)) (.need (List.length (envs.getD i.toNat [])*8<=140737488355328) (.need ((out.length+List.length [envs.getD i.toNat []])*24<=140737488355328) (.leaf (Sum.inl ((),(),(),IntKind.i64.wrap (i+1),qI,gH,qH,qG,qF,qE,envs,qD,kZ,qC,b2_0,b2_1,b2_2,b2_3,b2_4,b2_5,b2_6,b2_7,b2_8,b2_9,els,out++[envs.getD i.toNat []],b3_2,())))))) (.leaf (Sum.inr (Exit.exit 0,Lay.st L_rCopy0_0 noU ((),(),(),qI,gH,qH,qG,qF,qE,envs,qD,kZ,qC,b2_0,b2_1,b2_2,b2_3,b2_4,b2_5,b2_6,b2_7,b2_8,b2_9,els,out,b3_2,())))):=by kernel_rfl
def inv_rCopy0:AuI2->Prop:=fun(_,_,_,i,_,_,_,_,_,_,envs,_,_,_,_,_,_,_,_,_,_,_,_,_,_,out,_)=>0<=i/\i<=envs.length/\(envs.length<=1000/\∀q∈envs,q.length<=1000)/\out=envs.take i.toNat
def O_rCopy0:AuI2->Tree (Exit×St):=fun(_,_,_,_,qI,gH,qH,qG,qF,qE,envs,qD,kZ,qC,b2_0,b2_1,b2_2,b2_3,b2_4,b2_5,b2_6,b2_7,b2_8,b2_9,els,_,b3_2,_)=>(.leaf (.exit 0,L_rCopy0_0.st noU ((),(),(),qI,gH,qH,qG,qF,qE,envs,qD,kZ,qC,b2_0,b2_1,b2_2,b2_3,b2_4,b2_5,b2_6,b2_7,b2_8,b2_9,els,(envs),b3_2,())))
def R_rCopy0:jS:=j_ 40 L_rCopy0 (fun x=>x) inv_rCopy0 O_rCopy0
theorem K_rCopy0:zU P [] 40 none noU C_rCopy0 R_rCopy0:=by
 refine zT hm (cx:=[]) [] (xl:=X_rCopy0) (α:=AuI2) (fun x=>x) (fun(_,_,_,i,_,_,_,_,_,_,envs,_)=>((envs.length:Int) - i).toNat) (fun _=>rfl) (by kernel_rfl) (by kernel_rfl) ?_ (by kernel_rfl) trivial ?_
 ·intro e S L' h
  unfold X_rCopy0 at h
  split at h<;>cases h<;>kernel_rfl
 ·rintro⟨⟨⟩,⟨⟩,⟨⟩,i,qI,gH,qH,qG,qF,qE,envs,qD,kZ,qC,b2_0,b2_1,b2_2,b2_3,b2_4,b2_5,b2_6,b2_7,b2_8,b2_9,els,out,b3_2,⟨⟩⟩ hinv Q hQ
  refine zD (B_rCopy0 i qI gH qH qG qF qE envs qD kZ qC b2_0 b2_1 b2_2 b2_3 b2_4 b2_5 b2_6 b2_7 b2_8 b2_9 els out b3_2) ?_
  obtain⟨h0,h1,⟨h2,h3⟩,rfl⟩:=hinv
  rw[jZ (n:=i+1) (by omega) (by omega)]
  refine⟨fun c1=>?_,fun c1=>?_⟩
  ·have c1:=dcT c1
   have h4:=h3 _ (jT (d:=([]:List Int)) (show i.toNat<envs.length by omega))
   refine⟨⟨h0,c1⟩,by omega,?_,⟨⟨by omega,by omega,⟨h2,h3⟩,take_step [] h0 c1⟩,by show ((envs.length:Int) - (i+1)).toNat<((envs.length:Int) - i).toNat;omega⟩,hQ⟩
   rw[List.length_take,List.length_singleton];omega
  ·have c1:=dcF c1
   have e:envs.take i.toNat=envs:=List.take_of_length_le (by omega)
   rw[e]
   exact hQ
theorem T_rCopy(t u v w z:Int)(o:List (Int×V))(A:List (List Int))(p:Int)(r:List (Int×(Int×(Int×Bool))))(B:Int):jD (P:=P) [] (zH [(0,R_rCopy0)]) Tryz.f15 (z_ 0 [.agg (.pair tI (.pair tI (.pair tI (.pair tI (.pair tI (.pair (.pair (.sl (.pair tI tV)) (.pair (.sl tIs) tI)) (.pair (.sl (.pair tI (.pair tI (.pair tI .bool)))) tI)))))))] ((t,(u,(v,(w,(z,((o,(A,p)),(r,B))))))),())) =
 Tree.need (o.length*32<=140737488355328) (.need (inv_rCopy0 ((),(),(),0,t,u,v,w,z,o,A,p,r,B,0,0,0,0,0,[],[],0,[],0,o,[],p,())) (.need (r.length*32<=140737488355328) (.leaf (.agg [.int .i64 t,.int .i64 u,.int .i64 v,.int .i64 w,.int .i64 z,.sl (Ty.pair tI tV) o,.sl (Ty.sl tI) A,.int .i64 p,.sl (Ty.pair tI (Ty.pair tI (Ty.pair tI Ty.bool))) r,.int .i64 B])))):=by kernel_rfl
def c_rCopy:PC P:=PC.of (α:=(Int×(Int×(Int×(Int×(Int×((List (Int×V)×(List (List Int)×Int))×(List (Int×(Int×(Int×Bool)))×Int)))))))×Unit) 15 [.agg (.pair tI (.pair tI (.pair tI (.pair tI (.pair tI (.pair (.pair (.sl (.pair tI tV)) (.pair (.sl tIs) tI)) (.pair (.sl (.pair tI (.pair tI (.pair tI .bool)))) tI)))))))] (fun x=>x) (fun x=>x) (fun _=>rfl)
 (fun x=>some (sOk x.1))
 (fun x=>.agg [.int .i64 x.1.1,.int .i64 x.1.2.1,.int .i64 x.1.2.2.1,.int .i64 x.1.2.2.2.1,.int .i64 x.1.2.2.2.2.1,.sl tEl x.1.2.2.2.2.2.1.1,.sl tIs x.1.2.2.2.2.2.1.2.1,.int .i64 x.1.2.2.2.2.2.1.2.2,.sl tPm x.1.2.2.2.2.2.2.1,.int .i64 x.1.2.2.2.2.2.2.2]) (by kernel_rfl) (by
  rintro⟨⟨t,⟨u,⟨v,⟨w,⟨z,⟨⟨o,⟨A,p⟩⟩,⟨r,B⟩⟩⟩⟩⟩⟩⟩,⟨⟩⟩ hp
  refine fn_le hm (by kernel_rfl) (by kernel_rfl) (T_rCopy t u v w z o A p r B) ⟨K_rCopy0,trivial⟩ (by kernel_rfl) ?_
  try dsimp only at hp
  try dsimp only
  obtain⟨⟨p1,p2,p3⟩,p4⟩:sOk (t,u,v,w,z,(o,A,p),r,B):=hp
  dsimp only at p1 p2 p3 p4
  exact⟨by omega,⟨by decide,by omega,⟨p2,p3⟩,rfl⟩,by omega,rfl,rfl,rfl,rfl,rfl,rfl,rfl,rfl,rfl,rfl,trivial⟩)
theorem eqd_step{α:Type}[DecidableEq α](d:α){a b:List α}{i:Int}(h0:0<=i) (h:i<a.length) (hl:a.length=b.length):decide (a.drop i.toNat=b.drop i.toNat)=(decide (a.getD i.toNat d=b.getD i.toNat d)&&decide (a.drop (i+1).toNat=b.drop (i+1).toNat)):=by
 rw[jK d h0 h,jK d h0 (by omega:i<b.length)]
 rw[Bool.eq_iff_iff]
 simp
theorem eqd_end{α:Type}[DecidableEq α]{a b:List α}{i:Int}(h:¬ i<a.length) (hl:a.length=b.length):decide (a.drop i.toNat=b.drop i.toNat)=true:=by
 rw[jB h,jB (l:=b) (by omega)];simp
def L_rSame0:Lay:={ slots:=[(2,.ptr 3168 0),(3,.ptr 4168 0),(5,.val tI)],boxes:=[(3168,[.val tI,.val tI,.val tI,.val tI,.val tI,.val (.sl (.pair tI tV)),.val (.sl tIs),.val tI,.val (.sl (.pair tI (.pair tI (.pair tI .bool)))),.val tI]),(4168,[.val tI,.val tI,.val tI,.val tI,.val tI,.val (.sl (.pair tI tV)),.val (.sl tIs),.val tI,.val (.sl (.pair tI (.pair tI (.pair tI .bool)))),.val tI])] }
def L_rSame0_0:Lay:={ slots:=[(4,.val .bool)] }
def L_rSame0_1:Lay:={ slots:=[(2,.ptr 3168 0),(3,.ptr 4168 0)],boxes:=[(3168,[.val tI,.val tI,.val tI,.val tI,.val tI,.val (.sl (.pair tI tV)),.val (.sl tIs),.val tI,.val (.sl (.pair tI (.pair tI (.pair tI .bool)))),.val tI]),(4168,[.val tI,.val tI,.val tI,.val tI,.val tI,.val (.sl (.pair tI tV)),.val (.sl tIs),.val tI,.val (.sl (.pair tI (.pair tI (.pair tI .bool)))),.val tI])] }
def X_rSame0:Exit->St->Option Lay
 |.ret,_=>some L_rSame0_0
 |.exit 0,_=>some L_rSame0_1
 |_,_=>none
abbrev C_rSame0:Code:=jH (zJ Tryz.f20) 0
abbrev AuI1:Type:=Unit×Unit×Int×Int×Int×Int×Int×Int×List (Int×V)×List (List Int)×Int×List (Int×(Int×(Int×Bool)))×Int×Int×Int×Int×Int×Int×List (Int×V)×List (List Int)×Int×List (Int×(Int×(Int×Bool)))×Int×Unit
theorem B_rSame0(i a0 a1 a2 a3 a4:Int)(a5:List (Int×V))(a6:List (List Int))(a7:Int)(a8:List (Int×(Int×(Int×Bool))))(a9 b0 b1 b2 b3 b4:Int)(b5:List (Int×V))(b6:List (List Int))(b7:Int)(b8:List (Int×(Int×(Int×Bool))))(b9:Int):zF (P:=P) [] (zH []) [] 168 noU (jI C_rSame0) L_rSame0 X_rSame0 (α:=AuI1) (fun x=>x) (fun x=>x) ((),(),i,a0,a1,a2,a3,a4,a5,a6,a7,a8,a9,b0,b1,b2,b3,b4,b5,b6,b7,b8,b9,()) =
 Tree.cond (decide (i<(a5.length:Int))) (.need (0<=i/\i<(a5.length:Int)) (.need (0<=i/\i<(b5.length:Int)) (.cond (!((a5.getD i.toNat (0,0,0,0)).1==(b5.getD i.toNat (0,0,0,0)).1&&((a5.getD i.toNat (0,0,0,0)).2.1==(b5.getD i.toNat (0,0,0,0)).2.1&&((a5.getD i.toNat (0,0,0,0)).2.2.1==(b5.getD i.toNat (0,0,0,0)).2.2.1&&((a5.getD i.toNat (0,0,0,0)).2.2.2==(b5.getD i.toNat (0,0,0,0)).2.2.2&&true))))) (.leaf (Sum.inr (Exit.ret,Lay.st L_rSame0_0 noU (false,())))) (.leaf (Sum.inl ((),(),IntKind.i64.wrap (i+1),a0,a1,a2,a3,a4,a5,a6,a7,a8,a9,b0,b1,b2,b3,b4,b5,b6,b7,b8,b9,())))))) (.leaf (Sum.inr (Exit.exit 0,Lay.st L_rSame0_1 noU ((),(),a0,a1,a2,a3,a4,a5,a6,a7,a8,a9,b0,b1,b2,b3,b4,b5,b6,b7,b8,b9,())))):=by kernel_rfl
def inv_rSame0:AuI1->Prop:=fun(_,_,i,_,_,_,_,_,a5,_,_,_,_,_,_,_,_,_,b5,_)=>0<=i/\i<=a5.length/\a5.length=b5.length/\a5.length<=1000
def O_rSame0:AuI1->Tree (Exit×St):=fun(_,_,i,a0,a1,a2,a3,a4,a5,a6,a7,a8,a9,b0,b1,b2,b3,b4,b5,b6,b7,b8,b9,_)=>.cond (decide (a5.drop i.toNat=b5.drop i.toNat)) (.leaf (.exit 0,L_rSame0_1.st noU ((),(),a0,a1,a2,a3,a4,a5,a6,a7,a8,a9,b0,b1,b2,b3,b4,b5,b6,b7,b8,b9,()))) (.leaf (.ret,L_rSame0_0.st noU ((false),())))
def R_rSame0:jS:=j_ 168 L_rSame0 (fun x=>x) inv_rSame0 O_rSame0
theorem K_rSame0:zU P [] 168 none noU C_rSame0 R_rSame0:=by
 refine zT hm (cx:=[]) [] (xl:=X_rSame0) (α:=AuI1) (fun x=>x) (fun(_,_,i,_,_,_,_,_,a5,_)=>((a5.length:Int) - i).toNat) (fun _=>rfl) (by kernel_rfl) (by kernel_rfl) ?_ (by kernel_rfl) trivial ?_
 ·intro e S L' h
  unfold X_rSame0 at h
  split at h<;>cases h<;>kernel_rfl
 ·rintro⟨⟨⟩,⟨⟩,i,a0,a1,a2,a3,a4,a5,a6,a7,a8,a9,b0,b1,b2,b3,b4,b5,b6,b7,b8,b9,⟨⟩⟩ hinv Q hQ
  refine zD (B_rSame0 i a0 a1 a2 a3 a4 a5 a6 a7 a8 a9 b0 b1 b2 b3 b4 b5 b6 b7 b8 b9) ?_
  obtain⟨h0,h1,h2,h3⟩:=hinv
  rw[jZ (n:=i+1) (by omega) (by omega)]
  unfold O_rSame0 at hQ
  dsimp only at hQ
  refine⟨fun d1=>?_,fun d1=>?_⟩
  ·have d1:=dcT d1
   rw[eqd_step (0,0,0,0) h0 d1 h2] at hQ
   rw[e4_eq]
   refine⟨⟨h0,d1⟩,⟨h0,by omega⟩,fun d2=>?_,fun d2=>?_⟩
   ·have e:decide (a5.getD i.toNat (0,0,0,0)=b5.getD i.toNat (0,0,0,0))=false:=by simpa using d2
    rw[e,Bool.false_and] at hQ
    exact hQ.2 rfl
   ·have e:decide (a5.getD i.toNat (0,0,0,0)=b5.getD i.toNat (0,0,0,0))=true:=by simpa using d2
    rw[e,Bool.true_and] at hQ
    exact⟨⟨⟨by omega,by omega,h2,h3⟩,by show ((a5.length:Int) - (i+1)).toNat<((a5.length:Int) - i).toNat;omega⟩,hQ⟩
  ·have d1:=dcF d1
   rw[eqd_end d1 h2] at hQ
   exact hQ.1 rfl
def L_rSame24:Lay:={ slots:=[(2,.ptr 3168 0),(3,.ptr 4168 0),(6,.val tI),(7,.val tIs),(8,.val tIs),(9,.val tI)],boxes:=[(3168,[.val tI,.val tI,.val tI,.val tI,.val tI,.val (.sl (.pair tI tV)),.val (.sl tIs),.val tI,.val (.sl (.pair tI (.pair tI (.pair tI .bool)))),.val tI]),(4168,[.val tI,.val tI,.val tI,.val tI,.val tI,.val (.sl (.pair tI tV)),.val (.sl tIs),.val tI,.val (.sl (.pair tI (.pair tI (.pair tI .bool)))),.val tI])] }
def L_rSame24_0:Lay:={ slots:=[(4,.val .bool)] }
def L_rSame24_1:Lay:={ slots:=[(2,.ptr 3168 0),(3,.ptr 4168 0),(6,.val tI)],boxes:=[(3168,[.val tI,.val tI,.val tI,.val tI,.val tI,.val (.sl (.pair tI tV)),.val (.sl tIs),.val tI,.val (.sl (.pair tI (.pair tI (.pair tI .bool)))),.val tI]),(4168,[.val tI,.val tI,.val tI,.val tI,.val tI,.val (.sl (.pair tI tV)),.val (.sl tIs),.val tI,.val (.sl (.pair tI (.pair tI (.pair tI .bool)))),.val tI])] }
def X_rSame24:Exit->St->Option Lay
 |.ret,_=>some L_rSame24_0
 |.exit 4,_=>some L_rSame24_1
 |_,_=>none
abbrev C_rSame24:Code:=jH (jI (jH (zJ Tryz.f20) 2)) 4
abbrev AuI3:Type:=Unit×Unit×Int×List Int×List Int×Int×Int×Int×Int×Int×Int×List (Int×V)×List (List Int)×Int×List (Int×(Int×(Int×Bool)))×Int×Int×Int×Int×Int×Int×List (Int×V)×List (List Int)×Int×List (Int×(Int×(Int×Bool)))×Int×Unit
theorem B_rSame24(j:Int)(x y:List Int)(k a0 a1 a2 a3 a4:Int)(a5:List (Int×V))(a6:List (List Int))(a7:Int)(a8:List (Int×(Int×(Int×Bool))))(a9 b0 b1 b2 b3 b4:Int)(b5:List (Int×V))(b6:List (List Int))(b7:Int)(b8:List (Int×(Int×(Int×Bool))))(b9:Int):zF (P:=P) [] (zH []) [] 168 noU (jI C_rSame24) L_rSame24 X_rSame24 (α:=AuI3) (fun x=>x) (fun x=>x) ((),(),j,x,y,k,a0,a1,a2,a3,a4,a5,a6,a7,a8,a9,b0,b1,b2,b3,b4,b5,b6,b7,b8,b9,()) =
 Tree.cond (decide (k<(x.length:Int))) (.need (0<=k/\k<(x.length:Int)) (.need (0<=k/\k<(y.length:Int)) (.cond (x.getD k.toNat 0 != y.getD k.toNat 0) (.leaf (Sum.inr (Exit.ret,Lay.st L_rSame24_0 noU (false,())))) (.leaf (Sum.inl ((),(),j,x,y,IntKind.i64.wrap (k+1),a0,a1,a2,a3,a4,a5,a6,a7,a8,a9,b0,b1,b2,b3,b4,b5,b6,b7,b8,b9,())))))) (.leaf (Sum.inr (Exit.exit 4,Lay.st L_rSame24_1 noU ((),(),j,a0,a1,a2,a3,a4,a5,a6,a7,a8,a9,b0,b1,b2,b3,b4,b5,b6,b7,b8,b9,())))):=by kernel_rfl
def inv_rSame24:AuI3->Prop:=fun(_,_,_,x,y,k,_)=>0<=k/\k<=x.length/\x.length=y.length/\x.length<=1000
def O_rSame24:AuI3->Tree (Exit×St):=fun(_,_,j,x,y,k,a0,a1,a2,a3,a4,a5,a6,a7,a8,a9,b0,b1,b2,b3,b4,b5,b6,b7,b8,b9,_)=>.cond (decide (x.drop k.toNat=y.drop k.toNat)) (.leaf (.exit 4,L_rSame24_1.st noU ((),(),j,a0,a1,a2,a3,a4,a5,a6,a7,a8,a9,b0,b1,b2,b3,b4,b5,b6,b7,b8,b9,()))) (.leaf (.ret,L_rSame24_0.st noU ((false),())))
def R_rSame24:jS:=j_ 168 L_rSame24 (fun x=>x) inv_rSame24 O_rSame24
theorem K_rSame24:zU P [] 168 none noU C_rSame24 R_rSame24:=by
 refine zT hm (cx:=[]) [] (xl:=X_rSame24) (α:=AuI3) (fun x=>x) (fun(_,_,_,x,_,k,_)=>((x.length:Int) - k).toNat) (fun _=>rfl) (by kernel_rfl) (by kernel_rfl) ?_ (by kernel_rfl) trivial ?_
 ·intro e S L' h
  unfold X_rSame24 at h
  split at h<;>cases h<;>kernel_rfl
 ·rintro⟨⟨⟩,⟨⟩,j,x,y,k,a0,a1,a2,a3,a4,a5,a6,a7,a8,a9,b0,b1,b2,b3,b4,b5,b6,b7,b8,b9,⟨⟩⟩ hinv Q hQ
  refine zD (B_rSame24 j x y k a0 a1 a2 a3 a4 a5 a6 a7 a8 a9 b0 b1 b2 b3 b4 b5 b6 b7 b8 b9) ?_
  obtain⟨h0,h1,h2,h3⟩:=hinv
  rw[jZ (n:=k+1) (by omega) (by omega)]
  unfold O_rSame24 at hQ
  dsimp only at hQ
  refine⟨fun d1=>?_,fun d1=>?_⟩
  ·have d1:=dcT d1
   rw[eqd_step 0 h0 d1 h2] at hQ
   refine⟨⟨h0,d1⟩,⟨h0,by omega⟩,fun d2=>?_,fun d2=>?_⟩
   ·have e:decide (x.getD k.toNat 0=y.getD k.toNat 0)=false:=by simpa using d2
    rw[e,Bool.false_and] at hQ
    exact hQ.2 rfl
   ·have e:decide (x.getD k.toNat 0=y.getD k.toNat 0)=true:=by simpa using d2
    rw[e,Bool.true_and] at hQ
    exact⟨⟨⟨by omega,by omega,h2,h3⟩,by show ((x.length:Int) - (k+1)).toNat<((x.length:Int) - k).toNat;omega⟩,hQ⟩
  ·have d1:=dcF d1
   rw[eqd_end d1 h2] at hQ
   exact hQ.1 rfl
def L_rSame2:Lay:={ slots:=[(2,.ptr 3168 0),(3,.ptr 4168 0),(6,.val tI)],boxes:=[(3168,[.val tI,.val tI,.val tI,.val tI,.val tI,.val (.sl (.pair tI tV)),.val (.sl tIs),.val tI,.val (.sl (.pair tI (.pair tI (.pair tI .bool)))),.val tI]),(4168,[.val tI,.val tI,.val tI,.val tI,.val tI,.val (.sl (.pair tI tV)),.val (.sl tIs),.val tI,.val (.sl (.pair tI (.pair tI (.pair tI .bool)))),.val tI])] }
def L_rSame2_0:Lay:={ slots:=[(4,.val .bool)] }
def L_rSame2_1:Lay:={ slots:=[(2,.ptr 3168 0),(3,.ptr 4168 0)],boxes:=[(3168,[.val tI,.val tI,.val tI,.val tI,.val tI,.val (.sl (.pair tI tV)),.val (.sl tIs),.val tI,.val (.sl (.pair tI (.pair tI (.pair tI .bool)))),.val tI]),(4168,[.val tI,.val tI,.val tI,.val tI,.val tI,.val (.sl (.pair tI tV)),.val (.sl tIs),.val tI,.val (.sl (.pair tI (.pair tI (.pair tI .bool)))),.val tI])] }
def X_rSame2:Exit->St->Option Lay
 |.ret,_=>some L_rSame2_0
 |.exit 2,_=>some L_rSame2_1
 |_,_=>none
abbrev C_rSame2:Code:=jH (zJ Tryz.f20) 2
theorem B_rSame2(j a0 a1 a2 a3 a4:Int)(a5:List (Int×V))(a6:List (List Int))(a7:Int)(a8:List (Int×(Int×(Int×Bool))))(a9 b0 b1 b2 b3 b4:Int)(b5:List (Int×V))(b6:List (List Int))(b7:Int)(b8:List (Int×(Int×(Int×Bool))))(b9:Int):zF (P:=P) [] (zH [(4,R_rSame24)]) [] 168 noU (jI C_rSame2) L_rSame2 X_rSame2 (α:=AuI1) (fun x=>x) (fun x=>x) ((),(),j,a0,a1,a2,a3,a4,a5,a6,a7,a8,a9,b0,b1,b2,b3,b4,b5,b6,b7,b8,b9,()) =
 Tree.cond (decide (j<(a6.length:Int))) (.need (0<=j/\j<(a6.length:Int)) (.need (0<=j/\j<(b6.length:Int)) (.cond ((↑(List.length (a6.getD j.toNat [])):Int) != (↑(List.length (b6.getD j.toNat [])):Int)) (.leaf (Sum.inr (Exit.ret,Lay.st L_rSame2_0 noU (false,())))) (.need (inv_rSame24 ((),(),j,a6.getD j.toNat [],b6.getD j.toNat [],0,a0,a1,a2,a3,a4,a5,a6,a7,a8,a9,b0,b1,b2,b3,b4,b5,b6,b7,b8,b9,())) (.cond (decide (List.drop (Int.toNat 0) (a6.getD j.toNat [])=List.drop (Int.toNat 0) (b6.getD j.toNat []))) (.leaf (Sum.inl ((),(),IntKind.i64.wrap (j+1),a0,a1,a2,a3,a4,a5,a6,a7,a8,a9,b0,b1,b2,b3,b4,b5,b6,b7,b8,b9,()))) (.leaf (Sum.inr (Exit.ret,Lay.st L_rSame2_0 noU (false,()))))))))) (.leaf (Sum.inr (Exit.exit 2,Lay.st L_rSame2_1 noU ((),(),a0,a1,a2,a3,a4,a5,a6,a7,a8,a9,b0,b1,b2,b3,b4,b5,b6,b7,b8,b9,())))):=by kernel_rfl
def inv_rSame2:AuI1->Prop:=fun(_,_,j,_,_,_,_,_,_,a6,_,_,_,_,_,_,_,_,_,b6,_)=>0<=j/\j<=a6.length/\a6.length=b6.length/\a6.length<=1000/\∀q∈a6,q.length<=1000
def O_rSame2:AuI1->Tree (Exit×St):=fun(_,_,j,a0,a1,a2,a3,a4,a5,a6,a7,a8,a9,b0,b1,b2,b3,b4,b5,b6,b7,b8,b9,_)=>.cond (decide (a6.drop j.toNat=b6.drop j.toNat)) (.leaf (.exit 2,L_rSame2_1.st noU ((),(),a0,a1,a2,a3,a4,a5,a6,a7,a8,a9,b0,b1,b2,b3,b4,b5,b6,b7,b8,b9,()))) (.leaf (.ret,L_rSame2_0.st noU ((false),())))
def R_rSame2:jS:=j_ 168 L_rSame2 (fun x=>x) inv_rSame2 O_rSame2
theorem K_rSame2:zU P [] 168 none noU C_rSame2 R_rSame2:=by
 refine zT hm (cx:=[]) [(4,R_rSame24)] (xl:=X_rSame2) (α:=AuI1) (fun x=>x) (fun(_,_,j,_,_,_,_,_,_,a6,_)=>((a6.length:Int) - j).toNat) (fun _=>rfl) (by kernel_rfl) (by kernel_rfl) ?_ (by kernel_rfl) ⟨K_rSame24,trivial⟩ ?_
 ·intro e S L' h
  unfold X_rSame2 at h
  split at h<;>cases h<;>kernel_rfl
 ·rintro⟨⟨⟩,⟨⟩,j,a0,a1,a2,a3,a4,a5,a6,a7,a8,a9,b0,b1,b2,b3,b4,b5,b6,b7,b8,b9,⟨⟩⟩ hinv Q hQ
  refine zD (B_rSame2 j a0 a1 a2 a3 a4 a5 a6 a7 a8 a9 b0 b1 b2 b3 b4 b5 b6 b7 b8 b9) ?_
  obtain⟨h0,h1,h2,h3,h4⟩:=hinv
  rw[jZ (n:=j+1) (by omega) (by omega)]
  unfold O_rSame2 at hQ
  dsimp only at hQ
  refine⟨fun d1=>?_,fun d1=>?_⟩
  ·have d1:=dcT d1
   rw[eqd_step [] h0 d1 h2] at hQ
   have h5:=h4 _ (jT (d:=([]:List Int)) (show j.toNat<a6.length by omega))
   refine⟨⟨h0,d1⟩,⟨h0,by omega⟩,fun d2=>?_,fun d2=>?_⟩
   ·have d2:(a6.getD j.toNat []).length≠(b6.getD j.toNat []).length:=by
     have d2:((a6.getD j.toNat []).length:Int)≠(b6.getD j.toNat []).length:=by simpa using d2
     omega
    have e:decide (a6.getD j.toNat []=b6.getD j.toNat [])=false:=decide_eq_false fun h=>d2 (by rw[h])
    rw[e,Bool.false_and] at hQ
    exact hQ.2 rfl
   ·have d2:((a6.getD j.toNat []).length:Int)=(b6.getD j.toNat []).length:=by simpa using d2
    refine⟨⟨by decide,by omega,by omega,h5⟩,fun d3=>?_,fun d3=>?_⟩
    ·have e:decide (a6.getD j.toNat []=b6.getD j.toNat [])=true:=d3
     rw[e,Bool.true_and] at hQ
     exact⟨⟨⟨by omega,by omega,h2,h3,h4⟩,by show ((a6.length:Int) - (j+1)).toNat<((a6.length:Int) - j).toNat;omega⟩,hQ⟩
    ·have e:decide (a6.getD j.toNat []=b6.getD j.toNat [])=false:=d3
     rw[e,Bool.false_and] at hQ
     exact hQ.2 rfl
  ·have d1:=dcF d1
   rw[eqd_end d1 h2] at hQ
   exact hQ.1 rfl
def L_rSame6:Lay:={ slots:=[(2,.ptr 3168 0),(3,.ptr 4168 0),(10,.val tI)],boxes:=[(3168,[.val tI,.val tI,.val tI,.val tI,.val tI,.val (.sl (.pair tI tV)),.val (.sl tIs),.val tI,.val (.sl (.pair tI (.pair tI (.pair tI .bool)))),.val tI]),(4168,[.val tI,.val tI,.val tI,.val tI,.val tI,.val (.sl (.pair tI tV)),.val (.sl tIs),.val tI,.val (.sl (.pair tI (.pair tI (.pair tI .bool)))),.val tI])] }
def L_rSame6_0:Lay:={ slots:=[(4,.val .bool)] }
def L_rSame6_1:Lay:={ slots:=[] }
def X_rSame6:Exit->St->Option Lay
 |.ret,_=>some L_rSame6_0
 |.exit 6,_=>some L_rSame6_1
 |_,_=>none
abbrev C_rSame6:Code:=jH (zJ Tryz.f20) 6
theorem B_rSame6(m a0 a1 a2 a3 a4:Int)(a5:List (Int×V))(a6:List (List Int))(a7:Int)(a8:List (Int×(Int×(Int×Bool))))(a9 b0 b1 b2 b3 b4:Int)(b5:List (Int×V))(b6:List (List Int))(b7:Int)(b8:List (Int×(Int×(Int×Bool))))(b9:Int):zF (P:=P) [] (zH []) [] 168 noU (jI C_rSame6) L_rSame6 X_rSame6 (α:=AuI1) (fun x=>x) (fun x=>x) ((),(),m,a0,a1,a2,a3,a4,a5,a6,a7,a8,a9,b0,b1,b2,b3,b4,b5,b6,b7,b8,b9,()) =
 Tree.cond (decide (m<(a8.length:Int))) (.need (0<=m/\m<(a8.length:Int)) (.need (0<=m/\m<(b8.length:Int)) (.cond (!((a8.getD m.toNat (0,0,0,false)).1==(b8.getD m.toNat (0,0,0,false)).1&&((a8.getD m.toNat (0,0,0,false)).2.1==(b8.getD m.toNat (0,0,0,false)).2.1&&((a8.getD m.toNat (0,0,0,false)).2.2.1==(b8.getD m.toNat (0,0,0,false)).2.2.1&&((a8.getD m.toNat (0,0,0,false)).2.2.2==(b8.getD m.toNat (0,0,0,false)).2.2.2&&true))))) (.leaf (Sum.inr (Exit.ret,Lay.st L_rSame6_0 noU (false,())))) (.leaf (Sum.inl ((),(),IntKind.i64.wrap (m+1),a0,a1,a2,a3,a4,a5,a6,a7,a8,a9,b0,b1,b2,b3,b4,b5,b6,b7,b8,b9,())))))) (.leaf (Sum.inr (Exit.exit 6,Lay.st L_rSame6_1 noU ()))):=by kernel_rfl
def inv_rSame6:AuI1->Prop:=fun(_,_,m,_,_,_,_,_,_,_,_,a8,_,_,_,_,_,_,_,_,_,b8,_)=>0<=m/\m<=a8.length/\a8.length=b8.length/\a8.length<=1000
def O_rSame6:AuI1->Tree (Exit×St):=fun(_,_,m,_,_,_,_,_,_,_,_,a8,_,_,_,_,_,_,_,_,_,b8,_)=>.cond (decide (a8.drop m.toNat=b8.drop m.toNat)) (.leaf (.exit 6,L_rSame6_1.st noU ())) (.leaf (.ret,L_rSame6_0.st noU ((false),())))
def R_rSame6:jS:=j_ 168 L_rSame6 (fun x=>x) inv_rSame6 O_rSame6
theorem K_rSame6:zU P [] 168 none noU C_rSame6 R_rSame6:=by
 refine zT hm (cx:=[]) [] (xl:=X_rSame6) (α:=AuI1) (fun x=>x) (fun(_,_,m,_,_,_,_,_,_,_,_,a8,_)=>((a8.length:Int) - m).toNat) (fun _=>rfl) (by kernel_rfl) (by kernel_rfl) ?_ (by kernel_rfl) trivial ?_
 ·intro e S L' h
  unfold X_rSame6 at h
  split at h<;>cases h<;>kernel_rfl
 ·rintro⟨⟨⟩,⟨⟩,m,a0,a1,a2,a3,a4,a5,a6,a7,a8,a9,b0,b1,b2,b3,b4,b5,b6,b7,b8,b9,⟨⟩⟩ hinv Q hQ
  refine zD (B_rSame6 m a0 a1 a2 a3 a4 a5 a6 a7 a8 a9 b0 b1 b2 b3 b4 b5 b6 b7 b8 b9) ?_
  obtain⟨h0,h1,h2,h3⟩:=hinv
  rw[jZ (n:=m+1) (by omega) (by omega)]
  unfold O_rSame6 at hQ
  dsimp only at hQ
  refine⟨fun d1=>?_,fun d1=>?_⟩
  ·have d1:=dcT d1
   rw[eqd_step (0,0,0,false) h0 d1 h2] at hQ
   rw[pm_eq]
   refine⟨⟨h0,d1⟩,⟨h0,by omega⟩,fun d2=>?_,fun d2=>?_⟩
   ·have e:decide (a8.getD m.toNat (0,0,0,false)=b8.getD m.toNat (0,0,0,false))=false:=by simpa using d2
    rw[e,Bool.false_and] at hQ
    exact hQ.2 rfl
   ·have e:decide (a8.getD m.toNat (0,0,0,false)=b8.getD m.toNat (0,0,0,false))=true:=by simpa using d2
    rw[e,Bool.true_and] at hQ
    exact⟨⟨⟨by omega,by omega,h2,h3⟩,by show ((a8.length:Int) - (m+1)).toNat<((a8.length:Int) - m).toNat;omega⟩,hQ⟩
  ·have d1:=dcF d1
   rw[eqd_end d1 h2] at hQ
   exact hQ.1 rfl
theorem T_rSame(a_0 a_1 a_2 a_3 a_4:Int)(a_5:List (Int×V))(a_6:List (List Int))(a_7:Int)(a_8:List (Int×(Int×(Int×Bool))))(a_9 b_0 b_1 b_2 b_3 b_4:Int)(b_5:List (Int×V))(b_6:List (List Int))(b_7:Int)(b_8:List (Int×(Int×(Int×Bool))))(b_9:Int):jD (P:=P) [] (zH [(0,R_rSame0),(2,R_rSame2),(6,R_rSame6)]) Tryz.f20 (z_ 0 [.agg (.pair tI (.pair tI (.pair tI (.pair tI (.pair tI (.pair (.pair (.sl (.pair tI tV)) (.pair (.sl tIs) tI)) (.pair (.sl (.pair tI (.pair tI (.pair tI .bool)))) tI))))))),.agg (.pair tI (.pair tI (.pair tI (.pair tI (.pair tI (.pair (.pair (.sl (.pair tI tV)) (.pair (.sl tIs) tI)) (.pair (.sl (.pair tI (.pair tI (.pair tI .bool)))) tI)))))))] ((a_0,(a_1,(a_2,(a_3,(a_4,((a_5,(a_6,a_7)),(a_8,a_9))))))),(b_0,(b_1,(b_2,(b_3,(b_4,((b_5,(b_6,b_7)),(b_8,b_9))))))),())) =
 Tree.cond (a_0 != b_0) (.leaf (.bool false)) (.cond (a_1 != b_1) (.leaf (.bool false)) (.cond (a_2 != b_2) (.leaf (.bool false)) (.cond (a_3 != b_3) (.leaf (.bool false)) (.cond (a_4 != b_4) (.leaf (.bool false)) (.cond (a_9 != b_9) (.leaf (.bool false)) (.cond (a_7 != b_7) (.leaf (.bool false)) (.cond ((a_5.length:Int) != (b_5.length:Int)) (.leaf (.bool false)) (.cond ((a_6.length:Int) != (b_6.length:Int)) (.leaf (.bool false)) (.cond ((a_8.length:Int) != (b_8.length:Int)) (.leaf (.bool false)) (.need (inv_rSame0 ((),(),0,a_0,a_1,a_2,a_3,a_4,a_5,a_6,a_7,a_8,a_9,b_0,b_1,b_2,b_3,b_4,b_5,b_6,b_7,b_8,b_9,())) (.cond (decide (List.drop (Int.toNat 0) a_5=List.drop (Int.toNat 0) b_5)) (.need (inv_rSame2 ((),(),0,a_0,a_1,a_2,a_3,a_4,a_5,a_6,a_7,a_8,a_9,b_0,b_1,b_2,b_3,b_4,b_5,b_6,b_7,b_8,b_9,())) (.cond (decide (List.drop (Int.toNat 0) a_6=List.drop (Int.toNat 0) b_6)) (.need (inv_rSame6 ((),(),0,a_0,a_1,a_2,a_3,a_4,a_5,a_6,a_7,a_8,a_9,b_0,b_1,b_2,b_3,b_4,b_5,b_6,b_7,b_8,b_9,())) (.cond (decide (List.drop (Int.toNat 0) a_8=List.drop (Int.toNat 0) b_8)) (.leaf (.bool true)) (.leaf (.bool false)))) (.leaf (.bool false)))) (.leaf (.bool false))))))))))))):=by kernel_rfl
def c_rSame:PC P:=PC.of (α:=(Int×(Int×(Int×(Int×(Int×((List (Int×V)×(List (List Int)×Int))×(List (Int×(Int×(Int×Bool)))×Int)))))))×(Int×(Int×(Int×(Int×(Int×((List (Int×V)×(List (List Int)×Int))×(List (Int×(Int×(Int×Bool)))×Int)))))))×Unit) 20 [.agg (.pair tI (.pair tI (.pair tI (.pair tI (.pair tI (.pair (.pair (.sl (.pair tI tV)) (.pair (.sl tIs) tI)) (.pair (.sl (.pair tI (.pair tI (.pair tI .bool)))) tI))))))),.agg (.pair tI (.pair tI (.pair tI (.pair tI (.pair tI (.pair (.pair (.sl (.pair tI tV)) (.pair (.sl tIs) tI)) (.pair (.sl (.pair tI (.pair tI (.pair tI .bool)))) tI)))))))] (fun x=>x) (fun x=>x) (fun _=>rfl)
 (fun x=>some (sOk x.1/\sOk x.2.1))
 (fun x=>.bool (sameB x.1 x.2.1)) (by kernel_rfl) (by
  rintro⟨⟨a_0,⟨a_1,⟨a_2,⟨a_3,⟨a_4,⟨⟨a_5,⟨a_6,a_7⟩⟩,⟨a_8,a_9⟩⟩⟩⟩⟩⟩⟩,⟨b_0,⟨b_1,⟨b_2,⟨b_3,⟨b_4,⟨⟨b_5,⟨b_6,b_7⟩⟩,⟨b_8,b_9⟩⟩⟩⟩⟩⟩⟩,⟨⟩⟩ hp
  refine yK hm (by kernel_rfl) (by kernel_rfl) (T_rSame a_0 a_1 a_2 a_3 a_4 a_5 a_6 a_7 a_8 a_9 b_0 b_1 b_2 b_3 b_4 b_5 b_6 b_7 b_8 b_9) ⟨K_rSame0,K_rSame2,K_rSame6,trivial⟩ ?_
  try dsimp only at hp
  try dsimp only
  obtain⟨⟨⟨p1,p2,p3⟩,p4⟩,⟨q1,q2,q3⟩,q4⟩:sOk (a_0,a_1,a_2,a_3,a_4,(a_5,a_6,a_7),a_8,a_9)/\sOk (b_0,b_1,b_2,b_3,b_4,(b_5,b_6,b_7),b_8,b_9):=hp
  dsimp only at p1 p2 p3 p4
  have fin:∀n:Bool,sameB (a_0,a_1,a_2,a_3,a_4,(a_5,a_6,a_7),a_8,a_9) (b_0,b_1,b_2,b_3,b_4,(b_5,b_6,b_7),b_8,b_9)=n->SV.bool n=SV.bool (sameB (a_0,a_1,a_2,a_3,a_4,(a_5,a_6,a_7),a_8,a_9) (b_0,b_1,b_2,b_3,b_4,(b_5,b_6,b_7),b_8,b_9)):=fun n h=>by rw[h]
  have iff:sameB (a_0,a_1,a_2,a_3,a_4,(a_5,a_6,a_7),a_8,a_9) (b_0,b_1,b_2,b_3,b_4,(b_5,b_6,b_7),b_8,b_9)=true↔(a_0=b_0/\a_1=b_1/\a_2=b_2/\a_3=b_3/\a_4=b_4/\(a_5=b_5/\a_6=b_6/\a_7=b_7)/\a_8=b_8/\a_9=b_9):=by
   unfold sameB sameH;simp
  refine⟨fun c=>fin _ (Bool.eq_false_iff.2 fun h=>by obtain⟨rfl,rfl,rfl,rfl,rfl,⟨rfl,rfl,rfl⟩,rfl,rfl⟩:=iff.1 h;simp at c),fun c0=>⟨fun c=>fin _ (Bool.eq_false_iff.2 fun h=>by obtain⟨rfl,rfl,rfl,rfl,rfl,⟨rfl,rfl,rfl⟩,rfl,rfl⟩:=iff.1 h;simp at c),fun c1=>⟨fun c=>fin _ (Bool.eq_false_iff.2 fun h=>by obtain⟨rfl,rfl,rfl,rfl,rfl,⟨rfl,rfl,rfl⟩,rfl,rfl⟩:=iff.1 h;simp at c),fun c2=>⟨fun c=>fin _ (Bool.eq_false_iff.2 fun h=>by obtain⟨rfl,rfl,rfl,rfl,rfl,⟨rfl,rfl,rfl⟩,rfl,rfl⟩:=iff.1 h;simp at c),fun c3=>⟨fun c=>fin _ (Bool.eq_false_iff.2 fun h=>by obtain⟨rfl,rfl,rfl,rfl,rfl,⟨rfl,rfl,rfl⟩,rfl,rfl⟩:=iff.1 h;simp at c),fun c4=>⟨fun c=>fin _ (Bool.eq_false_iff.2 fun h=>by obtain⟨rfl,rfl,rfl,rfl,rfl,⟨rfl,rfl,rfl⟩,rfl,rfl⟩:=iff.1 h;simp at c),fun c5=>⟨fun c=>fin _ (Bool.eq_false_iff.2 fun h=>by obtain⟨rfl,rfl,rfl,rfl,rfl,⟨rfl,rfl,rfl⟩,rfl,rfl⟩:=iff.1 h;simp at c),fun c6=>⟨fun c=>fin _ (Bool.eq_false_iff.2 fun h=>by obtain⟨rfl,rfl,rfl,rfl,rfl,⟨rfl,rfl,rfl⟩,rfl,rfl⟩:=iff.1 h;simp at c),fun c7=>⟨fun c=>fin _ (Bool.eq_false_iff.2 fun h=>by obtain⟨rfl,rfl,rfl,rfl,rfl,⟨rfl,rfl,rfl⟩,rfl,rfl⟩:=iff.1 h;simp at c),fun c8=>⟨fun c=>fin _ (Bool.eq_false_iff.2 fun h=>by obtain⟨rfl,rfl,rfl,rfl,rfl,⟨rfl,rfl,rfl⟩,rfl,rfl⟩:=iff.1 h;simp at c),fun c9=>?_⟩⟩⟩⟩⟩⟩⟩⟩⟩⟩
  simp only[bne_eq_false_iff_eq] at c0 c1 c2 c3 c4 c5 c6 c7 c8 c9
  refine⟨⟨by decide,by omega,by omega,p1⟩,fun d0=>⟨⟨by decide,by omega,by omega,p2,p3⟩,fun d2=>⟨⟨by decide,by omega,by omega,p4⟩,fun d6=>fin _ ?_,fun d6=>fin _ ?_⟩,fun d2=>fin _ ?_⟩,fun d0=>fin _ ?_⟩
  ·have d0:a_5=b_5:=dcT d0
   have d2:a_6=b_6:=dcT d2
   have d6:a_8=b_8:=dcT d6
   exact iff.2 ⟨c0,c1,c2,c3,c4,⟨d0,d2,c6⟩,d6,c5⟩
  ·have d6:¬ a_8=b_8:=dcF d6
   exact Bool.eq_false_iff.2 fun h=>d6 (iff.1 h).2.2.2.2.2.2.1
  ·have d2:¬ a_6=b_6:=dcF d2
   exact Bool.eq_false_iff.2 fun h=>d2 (iff.1 h).2.2.2.2.2.1.2.1
  ·have d0:¬ a_5=b_5:=dcF d0
   exact Bool.eq_false_iff.2 fun h=>d0 (iff.1 h).2.2.2.2.2.1.1)
def L_Big0:Lay:={ slots:=[(1,.ptr 2028 0),(3,.val tI)],boxes:=[(2028,[.val (.sl (.pair tI tV)),.val (.sl tIs),.val tI])] }
def L_Big0_0:Lay:={ slots:=[(2,.val .bool)] }
def L_Big0_1:Lay:={ slots:=[] }
def X_Big0:Exit->St->Option Lay
 |.ret,_=>some L_Big0_0
 |.exit 0,_=>some L_Big0_1
 |_,_=>none
abbrev C_Big0:Code:=jH (zJ Tryz.f39) 0
abbrev AuI4:Type:=Unit×Int×List (Int×V)×List (List Int)×Int×Unit
theorem B_Big0(i:Int)(els:List (Int×V))(envs:List (List Int))(need:Int):zF (P:=P) [] (zH []) [] 28 noU (jI C_Big0) L_Big0 X_Big0 (α:=AuI4) (fun x=>x) (fun x=>x) ((),i,els,envs,need,()) =
 Tree.cond (decide (i<(envs.length:Int))) (.need (0<=i/\i<(envs.length:Int)) (.cond (decide ((↑(List.length (envs.getD i.toNat [])):Int)>12)) (.leaf (Sum.inr (Exit.ret,Lay.st L_Big0_0 noU (true,())))) (.leaf (Sum.inl ((),IntKind.i64.wrap (i+1),els,envs,need,()))))) (.leaf (Sum.inr (Exit.exit 0,Lay.st L_Big0_1 noU ()))):=by kernel_rfl
def inv_Big0:AuI4->Prop:=fun(_,i,_,envs,_)=>0<=i/\i<=envs.length/\envs.length<=1000
def O_Big0:AuI4->Tree (Exit×St):=fun(_,i,_,envs,_)=>.cond ((envs.drop i.toNat).any fun q=>decide ((q.length:Int)>12)) (.leaf (.ret,L_Big0_0.st noU ((true),()))) (.leaf (.exit 0,L_Big0_1.st noU ()))
def R_Big0:jS:=j_ 28 L_Big0 (fun x=>x) inv_Big0 O_Big0
theorem K_Big0:zU P [] 28 none noU C_Big0 R_Big0:=by
 refine zT hm (cx:=[]) [] (xl:=X_Big0) (α:=AuI4) (fun x=>x) (fun(_,i,_,envs,_)=>((envs.length:Int) - i).toNat) (fun _=>rfl) (by kernel_rfl) (by kernel_rfl) ?_ (by kernel_rfl) trivial ?_
 ·intro e S L' h
  unfold X_Big0 at h
  split at h<;>cases h<;>kernel_rfl
 ·rintro⟨⟨⟩,i,els,envs,need,⟨⟩⟩ hinv Q hQ
  refine zD (B_Big0 i els envs need) ?_
  obtain⟨h0,h1,h2⟩:=hinv
  rw[jZ (n:=i+1) (by omega) (by omega)]
  unfold O_Big0 at hQ
  dsimp only at hQ
  refine⟨fun d1=>?_,fun d1=>?_⟩
  ·have d1:=dcT d1
   rw[jK [] h0 d1,List.any_cons] at hQ
   refine⟨⟨h0,d1⟩,fun d2=>?_,fun d2=>?_⟩
   ·rw[d2,Bool.true_or] at hQ
    exact hQ.1 rfl
   ·rw[d2,Bool.false_or] at hQ
    exact⟨⟨⟨by omega,by omega,h2⟩,by show ((envs.length:Int) - (i+1)).toNat<((envs.length:Int) - i).toNat;omega⟩,hQ⟩
  ·have d1:=dcF d1
   rw[jB d1] at hQ
   exact hQ.2 rfl
theorem T_BigHouse(h_0:List (Int×V))(h_1:List (List Int))(h_2:Int):jD (P:=P) [] (zH [(0,R_Big0)]) Tryz.f39 (z_ 0 [.agg (.pair (.sl (.pair tI tV)) (.pair (.sl tIs) tI))] ((h_0,(h_1,h_2)),())) =
 Tree.cond (decide ((h_0.length:Int)>12)) (.leaf (.bool true)) (.cond (decide ((h_1.length:Int)>10)) (.leaf (.bool true)) (.need (inv_Big0 ((),0,h_0,h_1,h_2,())) (.cond (List.any (List.drop (Int.toNat 0) h_1) fun q=>decide ((q.length:Int)>12)) (.leaf (.bool true)) (.leaf (.bool false))))):=by kernel_rfl
def c_BigHouse:PC P:=PC.of (α:=(List (Int×V)×(List (List Int)×Int))×Unit) 39 [.agg (.pair (.sl (.pair tI tV)) (.pair (.sl tIs) tI))] (fun x=>x) (fun x=>x) (fun _=>rfl)
 (fun _=>none)
 (fun x=>.bool (bigH x.1)) (by kernel_rfl) (by
  rintro⟨⟨h_0,⟨h_1,h_2⟩⟩,⟨⟩⟩ hp
  refine yK hm (by kernel_rfl) (by kernel_rfl) (T_BigHouse h_0 h_1 h_2) ⟨K_Big0,trivial⟩ ?_
  try dsimp only at hp
  try dsimp only
  have fin:∀n:Bool,bigH (h_0,h_1,h_2)=n->SV.bool n=SV.bool (bigH (h_0,h_1,h_2)):=fun n h=>by rw[h]
  unfold bigH at fin ⊢
  dsimp only at fin ⊢
  refine⟨fun c1=>fin _ ?_,fun c1=>⟨fun c2=>fin _ ?_,fun c2=>⟨⟨by decide,by omega,by have:=dcF c2;omega⟩,fun c3=>fin _ ?_,fun c3=>fin _ ?_⟩⟩⟩
  ·rw[c1,Bool.true_or]
  ·rw[c1,c2,Bool.true_or,Bool.false_or]
  ·have c3:(h_1.any fun q=>decide ((q.length:Int)>12))=true:=c3
   rw[c1,c2,c3];rfl
  ·have c3:(h_1.any fun q=>decide ((q.length:Int)>12))=false:=c3
   rw[c1,c2,c3];rfl)
end
end Go.MB
