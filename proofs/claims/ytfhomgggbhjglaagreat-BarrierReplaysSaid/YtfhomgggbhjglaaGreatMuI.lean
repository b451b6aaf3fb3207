/- What the laws are made with: numbers, copies, equal sites. -/
import Derived.Test.YtfhomgggbhjglaaGreatMuH
namespace Go.MB
open Go Go.Sx Go.Proofs
set_option linter.unusedVariables false
set_option linter.unusedSimpArgs false
noncomputable section
def R64 (n:Int):Prop:=-9223372036854775808≤n∧n≤9223372036854775807
theorem tmod_pos {a b:Int}(hb:0<b):Int.tmod a b=a % b∨(Int.tmod a b=a % b - b∧a<0):=by
 rw[Int.tmod_eq_emod]
 split
 ·left; omega
 ·right
  have:(b.natAbs:Int)=b:=by omega
  exact⟨by omega,by omega⟩
theorem T_Mod (a b:Int):fnTree (P:=P) [] (lpOf []) Tryz.f28 (encL 0 [.val tI,.val tI] (a,b,())) =
 Tree.need (b≠(0:Int)) (.cond (decide (Int.tmod a b<0)) (.leaf (.int .i64 (IntKind.i64.wrap (Int.tmod a b+b)))) (.leaf (.int .i64 (Int.tmod a b)))):=by kernel_rfl
def c_Mod:PC P:=PC.of (α:=Int×Int×Unit) 28 [.val tI,.val tI] (fun x=>x) (fun x=>x) (fun _=>rfl)
 (fun x=>some (0<x.2.1∧R64 x.2.1))
 (fun x=>.int .i64 (x.1 % x.2.1)) (by kernel_rfl) (by
  rintro⟨a,b,⟨⟩⟩ hp
  refine fn_of hm (by kernel_rfl) (by kernel_rfl) (T_Mod a b) trivial ?_
  obtain⟨h0,h1,h2⟩:0<b∧R64 b:=hp
  have h3:=Int.emod_nonneg a (show b≠0 by omega)
  have h4:=Int.emod_lt_of_pos a h0
  refine⟨by omega,fun h=>?_,fun h=>?_⟩
  ·simp only[decide_eq_true_eq] at h
   show SV.int .i64 _=SV.int .i64 (a % b)
   rcases tmod_pos (a:=a) h0 with e |⟨e,_⟩
   ·omega
   ·rw[e,W_id (by omega) (by omega)]; congr 1; omega
  ·simp only[decide_eq_false_iff_not] at h
   show SV.int .i64 _=SV.int .i64 (a % b)
   rcases tmod_pos (a:=a) h0 with e |⟨e,_⟩
   ·rw[e]
   ·omega)
def rnX (l:List Int) (k:Int):Int:=(k*7919) % 10007+(if 0<(l.length:Int) then (l.getD (k % l.length).toNat 0 % 1048576) / (1+k / l.length) else 0)
def rnS (l:List Int) (at' n:Int):Int:=rnX l (at'+1) % n
theorem rnS_rng {l:List Int}{k n:Int}(h:0≤k) (hn:0<n):0≤rnS l k n∧rnS l k n<n :=
 ⟨Int.emod_nonneg _ (by omega),Int.emod_lt_of_pos _ hn⟩
def L_RNext:Lay:={ slots:=[(0,.ptr 1 0),(1,.val tI)],boxes:=[(1,[.val tIs,.val tI])] }
theorem T_RNext (n:Int) (l:List Int) (k:Int):mTree (P:=P) [c_Mod.gc] (lpOf []) Tryz.f48 L_RNext true ((),n,l,k,()) =
 Tree.need ((10007:Int)≠(0:Int)) (.cond (decide ((l.length:Int)>0)) (.need ((l.length:Int)≠(0:Int)) (.need ((0:Int)≤Int.tmod (IntKind.i64.wrap (k+1)) (l.length:Int)∧Int.tmod (IntKind.i64.wrap (k+1)) (l.length:Int)<(l.length:Int)) (.need ((0:Int)<1048576∧R64 (1048576:Int)) (.need ((l.length:Int)≠(0:Int)) (.need (IntKind.i64.wrap ((1:Int)+IntKind.i64.wrap (Int.tdiv (IntKind.i64.wrap (k+1)) (l.length:Int)))≠(0:Int)) (.need (n≠(0:Int)) (.leaf { res:=.int .i64 (Int.tmod (IntKind.i64.wrap (Int.tmod (IntKind.i64.wrap (IntKind.i64.wrap (k+1)*7919)) (10007:Int)+IntKind.i64.wrap (Int.tdiv (List.getD l (Int.toNat (Int.tmod (IntKind.i64.wrap (k+1)) (l.length:Int))) (0:Int) % 1048576) (IntKind.i64.wrap ((1:Int)+IntKind.i64.wrap (Int.tdiv (IntKind.i64.wrap (k+1)) (l.length:Int))))))) n),boxes:=[[.sl tI l,.int .i64 (IntKind.i64.wrap (k+1))]] }))))))) (.need (n≠(0:Int)) (.leaf { res:=.int .i64 (Int.tmod (Int.tmod (IntKind.i64.wrap (IntKind.i64.wrap (k+1)*7919)) (10007:Int)) n),boxes:=[[.sl tI l,.int .i64 (IntKind.i64.wrap (k+1))]] }))):=by kernel_rfl
def c_RNext:MC P:=MC.of (α:=Unit×Int×List Int×Int×Unit) 48 L_RNext (fun x=>x) (fun x=>x) (fun _=>rfl)
 (fun (_,n,l,k,_)=>some (0≤k∧k<1099511627776∧0<n))
 (fun (_,n,l,k,_)=>⟨.int .i64 (rnS l k n),[[.sl tI l,.int .i64 (k+1)]],[]⟩) (by kernel_rfl) (by kernel_rfl) (by kernel_rfl) (by
  rintro⟨⟨⟩,n,l,k,⟨⟩⟩ hp
  refine m_of hm (own:=true) (by kernel_rfl) (by kernel_rfl) (by kernel_rfl) (T_RNext n l k) trivial ?_
  obtain⟨h0,h1,h2⟩:0≤k∧k<1099511627776∧0<n:=hp
  show Tree.holds (fun s=>s=(⟨.int .i64 (rnS l k n),[[.sl tI l,.int .i64 (k+1)]],[]⟩:MOut)) _
  have e0:=Int.tmod_eq_emod_of_nonneg (show 0≤(k+1)*7919 by omega) (b:=10007)
  have r1:=Int.emod_nonneg ((k+1)*7919) (show (10007:Int)≠0 by decide)
  have r2:=Int.emod_lt_of_pos ((k+1)*7919) (show (0:Int)<10007 by decide)
  rw[W_id (n:=k+1) (by omega) (by omega),W_id (n:=(k+1)*7919) (by omega) (by omega),e0]
  refine⟨by decide,fun hl=>?_,fun hl=>?_⟩
  ·simp only[gt_iff_lt,decide_eq_true_eq] at hl
   have e1:=Int.tmod_eq_emod_of_nonneg (show 0≤k+1 by omega) (b:=(l.length:Int))
   have e2:=Int.tdiv_eq_ediv_of_nonneg (show 0≤k+1 by omega) (b:=(l.length:Int))
   have q1:0≤(k+1) / (l.length:Int):=Int.ediv_nonneg (by omega) (by omega)
   have q2:=Int.ediv_le_self (l.length:Int) (show 0≤k+1 by omega)
   have m1:=Int.emod_nonneg (k+1) (show (l.length:Int)≠0 by omega)
   have m2:=Int.emod_lt_of_pos (k+1) hl
   rw[e1,e2]
   generalize hg:l.getD ((k+1) % (l.length:Int)).toNat 0=g at *
   have o:=Int.emod_nonneg g (show (1048576:Int)≠0 by decide)
   have p:=Int.emod_lt_of_pos g (show (0:Int)<1048576 by decide)
   have e3:=Int.tdiv_eq_ediv_of_nonneg o (b:=1+(k+1) / (l.length:Int))
   have r:=Int.ediv_nonneg o (show 0≤1+(k+1) / (l.length:Int) by omega)
   have t:=Int.ediv_le_self (1+(k+1) / (l.length:Int)) o
   rw[W_id (n:=(k+1) / (l.length:Int)) (by omega) (by omega),W_id (n:=1+(k+1) / (l.length:Int)) (by omega) (by omega),e3,W_id (n:=g % 1048576 / (1+(k+1) / (l.length:Int))) (by omega) (by omega),
    W_id (n:=(k+1)*7919 % 10007+g % 1048576 / (1+(k+1) / (l.length:Int))) (by omega) (by omega),Int.tmod_eq_emod_of_nonneg (by omega)]
   refine⟨by omega,⟨m1,m2⟩,⟨by decide,by decide,by decide⟩,by omega,by omega,by omega,?_⟩
   show MOut.mk _ _ _=_
   unfold rnS rnX
   rw[if_pos hl,hg]
  ·simp only[gt_iff_lt,decide_eq_false_iff_not] at hl
   rw[Int.tmod_eq_emod_of_nonneg (by omega)]
   refine⟨by omega,?_⟩
   show MOut.mk _ _ _=_
   unfold rnS rnX
   rw[if_neg hl,Int.add_zero])
def L_NewRing:Lay:={ slots:=[(0,.val tIs)] }
theorem T_NewRing (l:List Int):mTree (P:=P) [] (lpOf []) Tryz.f12 L_NewRing true (l,()) =
 Tree.leaf { res:=SV.ptr (nat_lit 100) (0:Nat),boxes:=[],news:=[Ob.box [.sl tI l,.int .i64 0]] }:=by kernel_rfl
def c_NewRing:MC P:=MC.of (α:=List Int×Unit) 12 L_NewRing (fun x=>x) (fun x=>x) (fun _=>rfl)
 (fun _=>none)
 (fun (l,_)=>⟨.ptr 100 0,[],[.box [.sl tI l,.int .i64 0]]⟩) (by kernel_rfl) (by kernel_rfl) (by kernel_rfl) (by
  rintro⟨l,⟨⟩⟩ hp
  refine m_of hm (own:=true) (by kernel_rfl) (by kernel_rfl) (by kernel_rfl) (T_NewRing l) trivial ?_
  exact rfl)
theorem take_step {α:Type}(d:α) {l:List α}{i:Int}(h0:0≤i) (h:i<l.length):l.take i.toNat++[l.getD i.toNat d]=l.take (i+1).toNat:=by
 have h1:i.toNat<l.length:=by omega
 rw[show (i+1).toNat=i.toNat+1 by omega,List.take_add_one,List.getD_eq_getElem?_getD,List.getElem?_eq_getElem h1]
 rfl
def sameH (a b:Hs):Bool:=decide (a.1=b.1)&&(decide (a.2.1=b.2.1)&&decide (a.2.2=b.2.2))
def sameB (a b:Site):Bool:=decide (a.1=b.1)&&(decide (a.2.1=b.2.1)&&(decide (a.2.2.1=b.2.2.1)&&(decide (a.2.2.2.1=b.2.2.2.1)&&(decide (a.2.2.2.2.1=b.2.2.2.2.1)&&(sameH a.2.2.2.2.2.1 b.2.2.2.2.2.1&&(decide (a.2.2.2.2.2.2.1=b.2.2.2.2.2.2.1)&&decide (a.2.2.2.2.2.2.2=b.2.2.2.2.2.2.2)))))))
theorem sameB_iff {a b:Site}:sameB a b=true↔a=b:=by
 obtain⟨a0,a1,a2,a3,a4,⟨a5,a6,a7⟩,a8,a9⟩:=a
 obtain⟨b0,b1,b2,b3,b4,⟨b5,b6,b7⟩,b8,b9⟩:=b
 unfold sameB sameH
 simp
theorem e4_eq (x y:E4):(x.1==y.1&&(x.2.1==y.2.1&&(x.2.2.1==y.2.2.1&&(x.2.2.2==y.2.2.2&&true))))=decide (x=y):=by
 obtain⟨a,b,c,d⟩:=x
 obtain⟨e,f,g,h⟩:=y
 rw[Bool.eq_iff_iff]
 simp
theorem pm_eq (x y:Pm):(x.1==y.1&&(x.2.1==y.2.1&&(x.2.2.1==y.2.2.1&&(x.2.2.2==y.2.2.2&&true))))=decide (x=y):=by
 obtain⟨a,b,c,d⟩:=x
 obtain⟨e,f,g,h⟩:=y
 rw[Bool.eq_iff_iff]
 simp
def L_rCopy0:Lay:={ slots:=[(1,.ptr 2040 0),(2,.ptr 3040 0),(3,.ptr 4040 0),(4,.val tI)],boxes:=[(2040,[.val tI,.val tI,.val tI,.val tI,.val tI,.val (.sl (.pair tI tV)),.val (.sl tIs),.val tI,.val (.sl (.pair tI (.pair tI (.pair tI .bool)))),.val tI]),(3040,[.val tI,.val tI,.val tI,.val tI,.val tI,.val (.sl (.pair tI tV)),.val (.sl tIs),.val tI,.val (.sl (.pair tI (.pair tI (.pair tI .bool)))),.val tI]),(4040,[.row 47 (.pair tI tV),.row 31 tIs,.val tI])] }
def L_rCopy0_0:Lay:={ slots:=[(1,.ptr 2040 0),(2,.ptr 3040 0),(3,.ptr 4040 0)],boxes:=[(2040,[.val tI,.val tI,.val tI,.val tI,.val tI,.val (.sl (.pair tI tV)),.val (.sl tIs),.val tI,.val (.sl (.pair tI (.pair tI (.pair tI .bool)))),.val tI]),(3040,[.val tI,.val tI,.val tI,.val tI,.val tI,.val (.sl (.pair tI tV)),.val (.sl tIs),.val tI,.val (.sl (.pair tI (.pair tI (.pair tI .bool)))),.val tI]),(4040,[.row 47 (.pair tI tV),.row 31 tIs,.val tI])] }
def X_rCopy0:Exit→St→Option Lay
 |.exit 0,_=>some L_rCopy0_0
 |_,_=>none
abbrev C_rCopy0:Code:=loopC (bodyOf Tryz.f15) 0
theorem B_rCopy0 (i b1_0 b1_1 b1_2 b1_3 b1_4:Int) (b1_5:List (Int×V)) (envs:List (List Int)) (b1_7:Int) (b1_8:List (Int×(Int×(Int×Bool)))) (b1_9 b2_0 b2_1 b2_2 b2_3 b2_4:Int) (b2_5:List (Int×V)) (b2_6:List (List Int)) (b2_7:Int) (b2_8:List (Int×(Int×(Int×Bool)))) (b2_9:Int) (els:List (Int×V)) (out:List (List Int)) (b3_2:Int):loopBodyA (P:=P) [] (lpOf []) [] 40 noU (inner C_rCopy0) L_rCopy0 X_rCopy0 (α:=Unit×Unit×Unit×Int×Int×Int×Int×Int×Int×List (Int×V)×List (List Int)×Int×List (Int×(Int×(Int×Bool)))×Int×Int×Int×Int×Int×Int×List (Int×V)×List (List Int)×Int×List (Int×(Int×(Int×Bool)))×Int×List (Int×V)×List (List Int)×Int×Unit) (fun x=>x) (fun x=>x) ((),(),(),i,b1_0,b1_1,b1_2,b1_3,b1_4,b1_5,envs,b1_7,b1_8,b1_9,b2_0,b2_1,b2_2,b2_3,b2_4,b2_5,b2_6,b2_7,b2_8,b2_9,els,out,b3_2,()) =
 Tree.cond (decide (i<(envs.length:Int))) (.need ((0:Int)≤i∧i<(envs.length:Int)) (.need (List.length (envs.getD i.toNat [])*(8:Nat)≤(140737488355328:Nat)) (.need ((out.length+List.length [envs.getD i.toNat []])*(24:Nat)≤(140737488355328:Nat)) (.leaf (Sum.inl ((),(),(),IntKind.i64.wrap (i+1),b1_0,b1_1,b1_2,b1_3,b1_4,b1_5,envs,b1_7,b1_8,b1_9,b2_0,b2_1,b2_2,b2_3,b2_4,b2_5,b2_6,b2_7,b2_8,b2_9,els,out++[envs.getD i.toNat []],b3_2,())))))) (.leaf (Sum.inr (Exit.exit (0:Nat),Lay.st L_rCopy0_0 noU ((),(),(),b1_0,b1_1,b1_2,b1_3,b1_4,b1_5,envs,b1_7,b1_8,b1_9,b2_0,b2_1,b2_2,b2_3,b2_4,b2_5,b2_6,b2_7,b2_8,b2_9,els,out,b3_2,())))):=by kernel_rfl
def inv_rCopy0:Unit×Unit×Unit×Int×Int×Int×Int×Int×Int×List (Int×V)×List (List Int)×Int×List (Int×(Int×(Int×Bool)))×Int×Int×Int×Int×Int×Int×List (Int×V)×List (List Int)×Int×List (Int×(Int×(Int×Bool)))×Int×List (Int×V)×List (List Int)×Int×Unit→Prop:=fun ((),(),(),i,b1_0,b1_1,b1_2,b1_3,b1_4,b1_5,envs,b1_7,b1_8,b1_9,b2_0,b2_1,b2_2,b2_3,b2_4,b2_5,b2_6,b2_7,b2_8,b2_9,els,out,b3_2,())=>0≤i∧i≤envs.length∧(envs.length≤1000∧∀ q∈envs,q.length≤1000)∧out=envs.take i.toNat
def O_rCopy0:Unit×Unit×Unit×Int×Int×Int×Int×Int×Int×List (Int×V)×List (List Int)×Int×List (Int×(Int×(Int×Bool)))×Int×Int×Int×Int×Int×Int×List (Int×V)×List (List Int)×Int×List (Int×(Int×(Int×Bool)))×Int×List (Int×V)×List (List Int)×Int×Unit→Tree (Exit×St):=fun ((),(),(),i,b1_0,b1_1,b1_2,b1_3,b1_4,b1_5,envs,b1_7,b1_8,b1_9,b2_0,b2_1,b2_2,b2_3,b2_4,b2_5,b2_6,b2_7,b2_8,b2_9,els,out,b3_2,())=>(.leaf (.exit 0,L_rCopy0_0.st noU ((),(),(),b1_0,b1_1,b1_2,b1_3,b1_4,b1_5,envs,b1_7,b1_8,b1_9,b2_0,b2_1,b2_2,b2_3,b2_4,b2_5,b2_6,b2_7,b2_8,b2_9,els,(envs),b3_2,())))
def R_rCopy0:LRun:=runOf 40 L_rCopy0 (fun x=>x) (inv_rCopy0) (O_rCopy0)
theorem K_rCopy0:LoopOk P [] 40 none noU C_rCopy0 (R_rCopy0):=by
 refine loop_of hm (cx:=[]) [] (xl:=X_rCopy0) (α:=Unit×Unit×Unit×Int×Int×Int×Int×Int×Int×List (Int×V)×List (List Int)×Int×List (Int×(Int×(Int×Bool)))×Int×Int×Int×Int×Int×Int×List (Int×V)×List (List Int)×Int×List (Int×(Int×(Int×Bool)))×Int×List (Int×V)×List (List Int)×Int×Unit) (fun x=>x) (fun ((),(),(),i,b1_0,b1_1,b1_2,b1_3,b1_4,b1_5,envs,b1_7,b1_8,b1_9,b2_0,b2_1,b2_2,b2_3,b2_4,b2_5,b2_6,b2_7,b2_8,b2_9,els,out,b3_2,())=>((envs.length:Int) - i).toNat) (fun _=>rfl) (by kernel_rfl) (by kernel_rfl) ?_ (by kernel_rfl) trivial ?_
 ·intro e S L' h
  unfold X_rCopy0 at h
  split at h <;> first |(cases h; done) |(cases h; kernel_rfl) |(rcases bif_some h with h |h <;> cases h <;> kernel_rfl)
 ·rintro⟨⟨⟩,⟨⟩,⟨⟩,i,b1_0,b1_1,b1_2,b1_3,b1_4,b1_5,envs,b1_7,b1_8,b1_9,b2_0,b2_1,b2_2,b2_3,b2_4,b2_5,b2_6,b2_7,b2_8,b2_9,els,out,b3_2,⟨⟩⟩ hinv Q hQ
  refine hold_of_eq (B_rCopy0 i b1_0 b1_1 b1_2 b1_3 b1_4 b1_5 envs b1_7 b1_8 b1_9 b2_0 b2_1 b2_2 b2_3 b2_4 b2_5 b2_6 b2_7 b2_8 b2_9 els out b3_2) ?_
  obtain⟨h0,h1,⟨h2,h3⟩,rfl⟩:=hinv
  rw[W_id (n:=i+1) (by omega) (by omega)]
  refine⟨fun c1=>?_,fun c1=>?_⟩
  ·have c1:=dcT c1
   have h4:=h3 _ (getD_mem (d:=([]:List Int)) (show i.toNat<envs.length by omega))
   refine⟨⟨h0,c1⟩,by omega,?_,⟨⟨by omega,by omega,⟨h2,h3⟩,take_step [] h0 c1⟩,by show ((envs.length:Int) - (i+1)).toNat<((envs.length:Int) - i).toNat; omega⟩,hQ⟩
   rw[List.length_take,List.length_singleton]; omega
  ·have c1:=dcF c1
   have e:envs.take i.toNat=envs:=List.take_of_length_le (by omega)
   rw[e]
   exact hQ
theorem eqd_step {α:Type} [DecidableEq α] (d:α) {a b:List α}{i:Int}(h0:0≤i) (h:i<a.length) (hl:a.length=b.length):decide (a.drop i.toNat=b.drop i.toNat)=(decide (a.getD i.toNat d=b.getD i.toNat d)&&decide (a.drop (i+1).toNat=b.drop (i+1).toNat)):=by
 rw[drop_step d h0 h,drop_step d h0 (by omega:i<b.length)]
 rw[Bool.eq_iff_iff]
 simp
theorem eqd_end {α:Type} [DecidableEq α] {a b:List α}{i:Int}(h:¬ i<a.length) (hl:a.length=b.length):decide (a.drop i.toNat=b.drop i.toNat)=true:=by
 rw[drop_end h,drop_end (l:=b) (by omega)]; simp
def L_rSame0:Lay:={ slots:=[(2,.ptr 3168 0),(3,.ptr 4168 0),(5,.val tI)],boxes:=[(3168,[.val tI,.val tI,.val tI,.val tI,.val tI,.val (.sl (.pair tI tV)),.val (.sl tIs),.val tI,.val (.sl (.pair tI (.pair tI (.pair tI .bool)))),.val tI]),(4168,[.val tI,.val tI,.val tI,.val tI,.val tI,.val (.sl (.pair tI tV)),.val (.sl tIs),.val tI,.val (.sl (.pair tI (.pair tI (.pair tI .bool)))),.val tI])] }
def L_rSame0_0:Lay:={ slots:=[(4,.val .bool)] }
def L_rSame0_1:Lay:={ slots:=[(2,.ptr 3168 0),(3,.ptr 4168 0)],boxes:=[(3168,[.val tI,.val tI,.val tI,.val tI,.val tI,.val (.sl (.pair tI tV)),.val (.sl tIs),.val tI,.val (.sl (.pair tI (.pair tI (.pair tI .bool)))),.val tI]),(4168,[.val tI,.val tI,.val tI,.val tI,.val tI,.val (.sl (.pair tI tV)),.val (.sl tIs),.val tI,.val (.sl (.pair tI (.pair tI (.pair tI .bool)))),.val tI])] }
def X_rSame0:Exit→St→Option Lay
 |.ret,_=>some L_rSame0_0
 |.exit 0,_=>some L_rSame0_1
 |_,_=>none
abbrev C_rSame0:Code:=loopC (bodyOf Tryz.f20) 0
theorem B_rSame0 (i a0 a1 a2 a3 a4:Int) (a5:List (Int×V)) (a6:List (List Int)) (a7:Int) (a8:List (Int×(Int×(Int×Bool)))) (a9 b0 b1 b2 b3 b4:Int) (b5:List (Int×V)) (b6:List (List Int)) (b7:Int) (b8:List (Int×(Int×(Int×Bool)))) (b9:Int):loopBodyA (P:=P) [] (lpOf []) [] 168 noU (inner C_rSame0) L_rSame0 X_rSame0 (α:=Unit×Unit×Int×Int×Int×Int×Int×Int×List (Int×V)×List (List Int)×Int×List (Int×(Int×(Int×Bool)))×Int×Int×Int×Int×Int×Int×List (Int×V)×List (List Int)×Int×List (Int×(Int×(Int×Bool)))×Int×Unit) (fun x=>x) (fun x=>x) ((),(),i,a0,a1,a2,a3,a4,a5,a6,a7,a8,a9,b0,b1,b2,b3,b4,b5,b6,b7,b8,b9,()) =
 Tree.cond (decide (i<(a5.length:Int))) (.need ((0:Int)≤i∧i<(a5.length:Int)) (.need ((0:Int)≤i∧i<(b5.length:Int)) (.cond (!((a5.getD i.toNat (0,0,0,0)).1==(b5.getD i.toNat (0,0,0,0)).1&&((a5.getD i.toNat (0,0,0,0)).2.1==(b5.getD i.toNat (0,0,0,0)).2.1&&((a5.getD i.toNat (0,0,0,0)).2.2.1==(b5.getD i.toNat (0,0,0,0)).2.2.1&&((a5.getD i.toNat (0,0,0,0)).2.2.2==(b5.getD i.toNat (0,0,0,0)).2.2.2&&true))))) (.leaf (Sum.inr (Exit.ret,Lay.st L_rSame0_0 noU (false,())))) (.leaf (Sum.inl ((),(),IntKind.i64.wrap (i+1),a0,a1,a2,a3,a4,a5,a6,a7,a8,a9,b0,b1,b2,b3,b4,b5,b6,b7,b8,b9,())))))) (.leaf (Sum.inr (Exit.exit (0:Nat),Lay.st L_rSame0_1 noU ((),(),a0,a1,a2,a3,a4,a5,a6,a7,a8,a9,b0,b1,b2,b3,b4,b5,b6,b7,b8,b9,())))):=by kernel_rfl
def inv_rSame0:Unit×Unit×Int×Int×Int×Int×Int×Int×List (Int×V)×List (List Int)×Int×List (Int×(Int×(Int×Bool)))×Int×Int×Int×Int×Int×Int×List (Int×V)×List (List Int)×Int×List (Int×(Int×(Int×Bool)))×Int×Unit→Prop:=fun ((),(),i,a0,a1,a2,a3,a4,a5,a6,a7,a8,a9,b0,b1,b2,b3,b4,b5,b6,b7,b8,b9,())=>0≤i∧i≤a5.length∧a5.length=b5.length∧a5.length≤1000
def O_rSame0:Unit×Unit×Int×Int×Int×Int×Int×Int×List (Int×V)×List (List Int)×Int×List (Int×(Int×(Int×Bool)))×Int×Int×Int×Int×Int×Int×List (Int×V)×List (List Int)×Int×List (Int×(Int×(Int×Bool)))×Int×Unit→Tree (Exit×St):=fun ((),(),i,a0,a1,a2,a3,a4,a5,a6,a7,a8,a9,b0,b1,b2,b3,b4,b5,b6,b7,b8,b9,())=>.cond (decide (a5.drop i.toNat=b5.drop i.toNat)) (.leaf (.exit 0,L_rSame0_1.st noU ((),(),a0,a1,a2,a3,a4,a5,a6,a7,a8,a9,b0,b1,b2,b3,b4,b5,b6,b7,b8,b9,()))) (.leaf (.ret,L_rSame0_0.st noU ((false),())))
def R_rSame0:LRun:=runOf 168 L_rSame0 (fun x=>x) (inv_rSame0) (O_rSame0)
theorem K_rSame0:LoopOk P [] 168 none noU C_rSame0 (R_rSame0):=by
 refine loop_of hm (cx:=[]) [] (xl:=X_rSame0) (α:=Unit×Unit×Int×Int×Int×Int×Int×Int×List (Int×V)×List (List Int)×Int×List (Int×(Int×(Int×Bool)))×Int×Int×Int×Int×Int×Int×List (Int×V)×List (List Int)×Int×List (Int×(Int×(Int×Bool)))×Int×Unit) (fun x=>x) (fun ((),(),i,a0,a1,a2,a3,a4,a5,a6,a7,a8,a9,b0,b1,b2,b3,b4,b5,b6,b7,b8,b9,())=>((a5.length:Int) - i).toNat) (fun _=>rfl) (by kernel_rfl) (by kernel_rfl) ?_ (by kernel_rfl) trivial ?_
 ·intro e S L' h
  unfold X_rSame0 at h
  split at h <;> first |(cases h; done) |(cases h; kernel_rfl) |(rcases bif_some h with h |h <;> cases h <;> kernel_rfl)
 ·rintro⟨⟨⟩,⟨⟩,i,a0,a1,a2,a3,a4,a5,a6,a7,a8,a9,b0,b1,b2,b3,b4,b5,b6,b7,b8,b9,⟨⟩⟩ hinv Q hQ
  refine hold_of_eq (B_rSame0 i a0 a1 a2 a3 a4 a5 a6 a7 a8 a9 b0 b1 b2 b3 b4 b5 b6 b7 b8 b9) ?_
  obtain⟨h0,h1,h2,h3⟩:=hinv
  rw[W_id (n:=i+1) (by omega) (by omega)]
  unfold O_rSame0 at hQ
  dsimp only at hQ
  refine⟨fun d1=>?_,fun d1=>?_⟩
  ·have d1:=dcT d1
   rw[eqd_step (0,0,0,0) h0 d1 h2] at hQ
   rw[e4_eq]
   refine⟨⟨h0,d1⟩,⟨h0,by omega⟩,fun d2=>?_,fun d2=>?_⟩
   ·have e:decide (a5.getD i.toNat (0,0,0,0)=b5.getD i.toNat (0,0,0,0))=false:=by simpa using d2
    rw[e,Bool.false_and] at hQ
    exact hQ.2 rfl
   ·have e:decide (a5.getD i.toNat (0,0,0,0)=b5.getD i.toNat (0,0,0,0))=true:=by simpa using d2
    rw[e,Bool.true_and] at hQ
    exact⟨⟨⟨by omega,by omega,h2,h3⟩,by show ((a5.length:Int) - (i+1)).toNat<((a5.length:Int) - i).toNat; omega⟩,hQ⟩
  ·have d1:=dcF d1
   rw[eqd_end d1 h2] at hQ
   exact hQ.1 rfl
def L_rSame24:Lay:={ slots:=[(2,.ptr 3168 0),(3,.ptr 4168 0),(6,.val tI),(7,.val tIs),(8,.val tIs),(9,.val tI)],boxes:=[(3168,[.val tI,.val tI,.val tI,.val tI,.val tI,.val (.sl (.pair tI tV)),.val (.sl tIs),.val tI,.val (.sl (.pair tI (.pair tI (.pair tI .bool)))),.val tI]),(4168,[.val tI,.val tI,.val tI,.val tI,.val tI,.val (.sl (.pair tI tV)),.val (.sl tIs),.val tI,.val (.sl (.pair tI (.pair tI (.pair tI .bool)))),.val tI])] }
def L_rSame24_0:Lay:={ slots:=[(4,.val .bool)] }
def L_rSame24_1:Lay:={ slots:=[(2,.ptr 3168 0),(3,.ptr 4168 0),(6,.val tI)],boxes:=[(3168,[.val tI,.val tI,.val tI,.val tI,.val tI,.val (.sl (.pair tI tV)),.val (.sl tIs),.val tI,.val (.sl (.pair tI (.pair tI (.pair tI .bool)))),.val tI]),(4168,[.val tI,.val tI,.val tI,.val tI,.val tI,.val (.sl (.pair tI tV)),.val (.sl tIs),.val tI,.val (.sl (.pair tI (.pair tI (.pair tI .bool)))),.val tI])] }
def X_rSame24:Exit→St→Option Lay
 |.ret,_=>some L_rSame24_0
 |.exit 4,_=>some L_rSame24_1
 |_,_=>none
abbrev C_rSame24:Code:=loopC (inner (loopC (bodyOf Tryz.f20) 2)) 4
theorem B_rSame24 (j:Int) (x y:List Int) (k a0 a1 a2 a3 a4:Int) (a5:List (Int×V)) (a6:List (List Int)) (a7:Int) (a8:List (Int×(Int×(Int×Bool)))) (a9 b0 b1 b2 b3 b4:Int) (b5:List (Int×V)) (b6:List (List Int)) (b7:Int) (b8:List (Int×(Int×(Int×Bool)))) (b9:Int):loopBodyA (P:=P) [] (lpOf []) [] 168 noU (inner C_rSame24) L_rSame24 X_rSame24 (α:=Unit×Unit×Int×List Int×List Int×Int×Int×Int×Int×Int×Int×List (Int×V)×List (List Int)×Int×List (Int×(Int×(Int×Bool)))×Int×Int×Int×Int×Int×Int×List (Int×V)×List (List Int)×Int×List (Int×(Int×(Int×Bool)))×Int×Unit) (fun x=>x) (fun x=>x) ((),(),j,x,y,k,a0,a1,a2,a3,a4,a5,a6,a7,a8,a9,b0,b1,b2,b3,b4,b5,b6,b7,b8,b9,()) =
 Tree.cond (decide (k<(x.length:Int))) (.need ((0:Int)≤k∧k<(x.length:Int)) (.need ((0:Int)≤k∧k<(y.length:Int)) (.cond (x.getD k.toNat (0:Int) != y.getD k.toNat (0:Int)) (.leaf (Sum.inr (Exit.ret,Lay.st L_rSame24_0 noU (false,())))) (.leaf (Sum.inl ((),(),j,x,y,IntKind.i64.wrap (k+1),a0,a1,a2,a3,a4,a5,a6,a7,a8,a9,b0,b1,b2,b3,b4,b5,b6,b7,b8,b9,())))))) (.leaf (Sum.inr (Exit.exit (4:Nat),Lay.st L_rSame24_1 noU ((),(),j,a0,a1,a2,a3,a4,a5,a6,a7,a8,a9,b0,b1,b2,b3,b4,b5,b6,b7,b8,b9,())))):=by kernel_rfl
def inv_rSame24:Unit×Unit×Int×List Int×List Int×Int×Int×Int×Int×Int×Int×List (Int×V)×List (List Int)×Int×List (Int×(Int×(Int×Bool)))×Int×Int×Int×Int×Int×Int×List (Int×V)×List (List Int)×Int×List (Int×(Int×(Int×Bool)))×Int×Unit→Prop:=fun ((),(),j,x,y,k,a0,a1,a2,a3,a4,a5,a6,a7,a8,a9,b0,b1,b2,b3,b4,b5,b6,b7,b8,b9,())=>0≤k∧k≤x.length∧x.length=y.length∧x.length≤1000
def O_rSame24:Unit×Unit×Int×List Int×List Int×Int×Int×Int×Int×Int×Int×List (Int×V)×List (List Int)×Int×List (Int×(Int×(Int×Bool)))×Int×Int×Int×Int×Int×Int×List (Int×V)×List (List Int)×Int×List (Int×(Int×(Int×Bool)))×Int×Unit→Tree (Exit×St):=fun ((),(),j,x,y,k,a0,a1,a2,a3,a4,a5,a6,a7,a8,a9,b0,b1,b2,b3,b4,b5,b6,b7,b8,b9,())=>.cond (decide (x.drop k.toNat=y.drop k.toNat)) (.leaf (.exit 4,L_rSame24_1.st noU ((),(),j,a0,a1,a2,a3,a4,a5,a6,a7,a8,a9,b0,b1,b2,b3,b4,b5,b6,b7,b8,b9,()))) (.leaf (.ret,L_rSame24_0.st noU ((false),())))
def R_rSame24:LRun:=runOf 168 L_rSame24 (fun x=>x) (inv_rSame24) (O_rSame24)
theorem K_rSame24:LoopOk P [] 168 none noU C_rSame24 (R_rSame24):=by
 refine loop_of hm (cx:=[]) [] (xl:=X_rSame24) (α:=Unit×Unit×Int×List Int×List Int×Int×Int×Int×Int×Int×Int×List (Int×V)×List (List Int)×Int×List (Int×(Int×(Int×Bool)))×Int×Int×Int×Int×Int×Int×List (Int×V)×List (List Int)×Int×List (Int×(Int×(Int×Bool)))×Int×Unit) (fun x=>x) (fun ((),(),j,x,y,k,a0,a1,a2,a3,a4,a5,a6,a7,a8,a9,b0,b1,b2,b3,b4,b5,b6,b7,b8,b9,())=>((x.length:Int) - k).toNat) (fun _=>rfl) (by kernel_rfl) (by kernel_rfl) ?_ (by kernel_rfl) trivial ?_
 ·intro e S L' h
  unfold X_rSame24 at h
  split at h <;> first |(cases h; done) |(cases h; kernel_rfl) |(rcases bif_some h with h |h <;> cases h <;> kernel_rfl)
 ·rintro⟨⟨⟩,⟨⟩,j,x,y,k,a0,a1,a2,a3,a4,a5,a6,a7,a8,a9,b0,b1,b2,b3,b4,b5,b6,b7,b8,b9,⟨⟩⟩ hinv Q hQ
  refine hold_of_eq (B_rSame24 j x y k a0 a1 a2 a3 a4 a5 a6 a7 a8 a9 b0 b1 b2 b3 b4 b5 b6 b7 b8 b9) ?_
  obtain⟨h0,h1,h2,h3⟩:=hinv
  rw[W_id (n:=k+1) (by omega) (by omega)]
  unfold O_rSame24 at hQ
  dsimp only at hQ
  refine⟨fun d1=>?_,fun d1=>?_⟩
  ·have d1:=dcT d1
   rw[eqd_step 0 h0 d1 h2] at hQ
   refine⟨⟨h0,d1⟩,⟨h0,by omega⟩,fun d2=>?_,fun d2=>?_⟩
   ·have e:decide (x.getD k.toNat 0=y.getD k.toNat 0)=false:=by simpa using d2
    rw[e,Bool.false_and] at hQ
    exact hQ.2 rfl
   ·have e:decide (x.getD k.toNat 0=y.getD k.toNat 0)=true:=by simpa using d2
    rw[e,Bool.true_and] at hQ
    exact⟨⟨⟨by omega,by omega,h2,h3⟩,by show ((x.length:Int) - (k+1)).toNat<((x.length:Int) - k).toNat; omega⟩,hQ⟩
  ·have d1:=dcF d1
   rw[eqd_end d1 h2] at hQ
   exact hQ.1 rfl
def L_rSame2:Lay:={ slots:=[(2,.ptr 3168 0),(3,.ptr 4168 0),(6,.val tI)],boxes:=[(3168,[.val tI,.val tI,.val tI,.val tI,.val tI,.val (.sl (.pair tI tV)),.val (.sl tIs),.val tI,.val (.sl (.pair tI (.pair tI (.pair tI .bool)))),.val tI]),(4168,[.val tI,.val tI,.val tI,.val tI,.val tI,.val (.sl (.pair tI tV)),.val (.sl tIs),.val tI,.val (.sl (.pair tI (.pair tI (.pair tI .bool)))),.val tI])] }
def L_rSame2_0:Lay:={ slots:=[(4,.val .bool)] }
def L_rSame2_1:Lay:={ slots:=[(2,.ptr 3168 0),(3,.ptr 4168 0)],boxes:=[(3168,[.val tI,.val tI,.val tI,.val tI,.val tI,.val (.sl (.pair tI tV)),.val (.sl tIs),.val tI,.val (.sl (.pair tI (.pair tI (.pair tI .bool)))),.val tI]),(4168,[.val tI,.val tI,.val tI,.val tI,.val tI,.val (.sl (.pair tI tV)),.val (.sl tIs),.val tI,.val (.sl (.pair tI (.pair tI (.pair tI .bool)))),.val tI])] }
def X_rSame2:Exit→St→Option Lay
 |.ret,_=>some L_rSame2_0
 |.exit 2,_=>some L_rSame2_1
 |_,_=>none
abbrev C_rSame2:Code:=loopC (bodyOf Tryz.f20) 2
theorem B_rSame2 (j a0 a1 a2 a3 a4:Int) (a5:List (Int×V)) (a6:List (List Int)) (a7:Int) (a8:List (Int×(Int×(Int×Bool)))) (a9 b0 b1 b2 b3 b4:Int) (b5:List (Int×V)) (b6:List (List Int)) (b7:Int) (b8:List (Int×(Int×(Int×Bool)))) (b9:Int):loopBodyA (P:=P) [] (lpOf [(4,R_rSame24)]) [] 168 noU (inner C_rSame2) L_rSame2 X_rSame2 (α:=Unit×Unit×Int×Int×Int×Int×Int×Int×List (Int×V)×List (List Int)×Int×List (Int×(Int×(Int×Bool)))×Int×Int×Int×Int×Int×Int×List (Int×V)×List (List Int)×Int×List (Int×(Int×(Int×Bool)))×Int×Unit) (fun x=>x) (fun x=>x) ((),(),j,a0,a1,a2,a3,a4,a5,a6,a7,a8,a9,b0,b1,b2,b3,b4,b5,b6,b7,b8,b9,()) =
 Tree.cond (decide (j<(a6.length:Int))) (.need ((0:Int)≤j∧j<(a6.length:Int)) (.need ((0:Int)≤j∧j<(b6.length:Int)) (.cond ((↑(List.length (a6.getD j.toNat [])):Int) != (↑(List.length (b6.getD j.toNat [])):Int)) (.leaf (Sum.inr (Exit.ret,Lay.st L_rSame2_0 noU (false,())))) (.need (inv_rSame24 ((),(),j,a6.getD j.toNat [],b6.getD j.toNat [],(0:Int),a0,a1,a2,a3,a4,a5,a6,a7,a8,a9,b0,b1,b2,b3,b4,b5,b6,b7,b8,b9,())) (.cond (decide (List.drop (Int.toNat (0:Int)) (a6.getD j.toNat [])=List.drop (Int.toNat (0:Int)) (b6.getD j.toNat []))) (.leaf (Sum.inl ((),(),IntKind.i64.wrap (j+1),a0,a1,a2,a3,a4,a5,a6,a7,a8,a9,b0,b1,b2,b3,b4,b5,b6,b7,b8,b9,()))) (.leaf (Sum.inr (Exit.ret,Lay.st L_rSame2_0 noU (false,()))))))))) (.leaf (Sum.inr (Exit.exit (2:Nat),Lay.st L_rSame2_1 noU ((),(),a0,a1,a2,a3,a4,a5,a6,a7,a8,a9,b0,b1,b2,b3,b4,b5,b6,b7,b8,b9,())))):=by kernel_rfl
def inv_rSame2:Unit×Unit×Int×Int×Int×Int×Int×Int×List (Int×V)×List (List Int)×Int×List (Int×(Int×(Int×Bool)))×Int×Int×Int×Int×Int×Int×List (Int×V)×List (List Int)×Int×List (Int×(Int×(Int×Bool)))×Int×Unit→Prop:=fun ((),(),j,a0,a1,a2,a3,a4,a5,a6,a7,a8,a9,b0,b1,b2,b3,b4,b5,b6,b7,b8,b9,())=>0≤j∧j≤a6.length∧a6.length=b6.length∧a6.length≤1000∧∀ q∈a6,q.length≤1000
def O_rSame2:Unit×Unit×Int×Int×Int×Int×Int×Int×List (Int×V)×List (List Int)×Int×List (Int×(Int×(Int×Bool)))×Int×Int×Int×Int×Int×Int×List (Int×V)×List (List Int)×Int×List (Int×(Int×(Int×Bool)))×Int×Unit→Tree (Exit×St):=fun ((),(),j,a0,a1,a2,a3,a4,a5,a6,a7,a8,a9,b0,b1,b2,b3,b4,b5,b6,b7,b8,b9,())=>.cond (decide (a6.drop j.toNat=b6.drop j.toNat)) (.leaf (.exit 2,L_rSame2_1.st noU ((),(),a0,a1,a2,a3,a4,a5,a6,a7,a8,a9,b0,b1,b2,b3,b4,b5,b6,b7,b8,b9,()))) (.leaf (.ret,L_rSame2_0.st noU ((false),())))
def R_rSame2:LRun:=runOf 168 L_rSame2 (fun x=>x) (inv_rSame2) (O_rSame2)
theorem K_rSame2:LoopOk P [] 168 none noU C_rSame2 (R_rSame2):=by
 refine loop_of hm (cx:=[]) [(4,R_rSame24)] (xl:=X_rSame2) (α:=Unit×Unit×Int×Int×Int×Int×Int×Int×List (Int×V)×List (List Int)×Int×List (Int×(Int×(Int×Bool)))×Int×Int×Int×Int×Int×Int×List (Int×V)×List (List Int)×Int×List (Int×(Int×(Int×Bool)))×Int×Unit) (fun x=>x) (fun ((),(),j,a0,a1,a2,a3,a4,a5,a6,a7,a8,a9,b0,b1,b2,b3,b4,b5,b6,b7,b8,b9,())=>((a6.length:Int) - j).toNat) (fun _=>rfl) (by kernel_rfl) (by kernel_rfl) ?_ (by kernel_rfl) ⟨K_rSame24,trivial⟩ ?_
 ·intro e S L' h
  unfold X_rSame2 at h
  split at h <;> first |(cases h; done) |(cases h; kernel_rfl) |(rcases bif_some h with h |h <;> cases h <;> kernel_rfl)
 ·rintro⟨⟨⟩,⟨⟩,j,a0,a1,a2,a3,a4,a5,a6,a7,a8,a9,b0,b1,b2,b3,b4,b5,b6,b7,b8,b9,⟨⟩⟩ hinv Q hQ
  refine hold_of_eq (B_rSame2 j a0 a1 a2 a3 a4 a5 a6 a7 a8 a9 b0 b1 b2 b3 b4 b5 b6 b7 b8 b9) ?_
  obtain⟨h0,h1,h2,h3,h4⟩:=hinv
  rw[W_id (n:=j+1) (by omega) (by omega)]
  unfold O_rSame2 at hQ
  dsimp only at hQ
  refine⟨fun d1=>?_,fun d1=>?_⟩
  ·have d1:=dcT d1
   rw[eqd_step [] h0 d1 h2] at hQ
   have h5:=h4 _ (getD_mem (d:=([]:List Int)) (show j.toNat<a6.length by omega))
   refine⟨⟨h0,d1⟩,⟨h0,by omega⟩,fun d2=>?_,fun d2=>?_⟩
   ·have d2:(a6.getD j.toNat []).length≠(b6.getD j.toNat []).length:=by
     have d2:((a6.getD j.toNat []).length:Int)≠(b6.getD j.toNat []).length:=by simpa using d2
     omega
    have e:decide (a6.getD j.toNat []=b6.getD j.toNat [])=false:=decide_eq_false fun h=>d2 (by rw[h])
    rw[e,Bool.false_and] at hQ
    exact hQ.2 rfl
   ·have d2:((a6.getD j.toNat []).length:Int)=(b6.getD j.toNat []).length:=by simpa using d2
    refine⟨⟨by decide,by omega,by omega,h5⟩,fun d3=>?_,fun d3=>?_⟩
    ·have e:decide (a6.getD j.toNat []=b6.getD j.toNat [])=true:=d3
     rw[e,Bool.true_and] at hQ
     exact⟨⟨⟨by omega,by omega,h2,h3,h4⟩,by show ((a6.length:Int) - (j+1)).toNat<((a6.length:Int) - j).toNat; omega⟩,hQ⟩
    ·have e:decide (a6.getD j.toNat []=b6.getD j.toNat [])=false:=d3
     rw[e,Bool.false_and] at hQ
     exact hQ.2 rfl
  ·have d1:=dcF d1
   rw[eqd_end d1 h2] at hQ
   exact hQ.1 rfl
def L_rSame6:Lay:={ slots:=[(2,.ptr 3168 0),(3,.ptr 4168 0),(10,.val tI)],boxes:=[(3168,[.val tI,.val tI,.val tI,.val tI,.val tI,.val (.sl (.pair tI tV)),.val (.sl tIs),.val tI,.val (.sl (.pair tI (.pair tI (.pair tI .bool)))),.val tI]),(4168,[.val tI,.val tI,.val tI,.val tI,.val tI,.val (.sl (.pair tI tV)),.val (.sl tIs),.val tI,.val (.sl (.pair tI (.pair tI (.pair tI .bool)))),.val tI])] }
def L_rSame6_0:Lay:={ slots:=[(4,.val .bool)] }
def L_rSame6_1:Lay:={ slots:=[] }
def X_rSame6:Exit→St→Option Lay
 |.ret,_=>some L_rSame6_0
 |.exit 6,_=>some L_rSame6_1
 |_,_=>none
abbrev C_rSame6:Code:=loopC (bodyOf Tryz.f20) 6
theorem B_rSame6 (m a0 a1 a2 a3 a4:Int) (a5:List (Int×V)) (a6:List (List Int)) (a7:Int) (a8:List (Int×(Int×(Int×Bool)))) (a9 b0 b1 b2 b3 b4:Int) (b5:List (Int×V)) (b6:List (List Int)) (b7:Int) (b8:List (Int×(Int×(Int×Bool)))) (b9:Int):loopBodyA (P:=P) [] (lpOf []) [] 168 noU (inner C_rSame6) L_rSame6 X_rSame6 (α:=Unit×Unit×Int×Int×Int×Int×Int×Int×List (Int×V)×List (List Int)×Int×List (Int×(Int×(Int×Bool)))×Int×Int×Int×Int×Int×Int×List (Int×V)×List (List Int)×Int×List (Int×(Int×(Int×Bool)))×Int×Unit) (fun x=>x) (fun x=>x) ((),(),m,a0,a1,a2,a3,a4,a5,a6,a7,a8,a9,b0,b1,b2,b3,b4,b5,b6,b7,b8,b9,()) =
 Tree.cond (decide (m<(a8.length:Int))) (.need ((0:Int)≤m∧m<(a8.length:Int)) (.need ((0:Int)≤m∧m<(b8.length:Int)) (.cond (!((a8.getD m.toNat ((0:Int),(0:Int),(0:Int),false)).1==(b8.getD m.toNat ((0:Int),(0:Int),(0:Int),false)).1&&((a8.getD m.toNat ((0:Int),(0:Int),(0:Int),false)).2.1==(b8.getD m.toNat ((0:Int),(0:Int),(0:Int),false)).2.1&&((a8.getD m.toNat ((0:Int),(0:Int),(0:Int),false)).2.2.1==(b8.getD m.toNat ((0:Int),(0:Int),(0:Int),false)).2.2.1&&((a8.getD m.toNat ((0:Int),(0:Int),(0:Int),false)).2.2.2==(b8.getD m.toNat ((0:Int),(0:Int),(0:Int),false)).2.2.2&&true))))) (.leaf (Sum.inr (Exit.ret,Lay.st L_rSame6_0 noU (false,())))) (.leaf (Sum.inl ((),(),IntKind.i64.wrap (m+1),a0,a1,a2,a3,a4,a5,a6,a7,a8,a9,b0,b1,b2,b3,b4,b5,b6,b7,b8,b9,())))))) (.leaf (Sum.inr (Exit.exit (6:Nat),Lay.st L_rSame6_1 noU ()))):=by kernel_rfl
def inv_rSame6:Unit×Unit×Int×Int×Int×Int×Int×Int×List (Int×V)×List (List Int)×Int×List (Int×(Int×(Int×Bool)))×Int×Int×Int×Int×Int×Int×List (Int×V)×List (List Int)×Int×List (Int×(Int×(Int×Bool)))×Int×Unit→Prop:=fun ((),(),m,a0,a1,a2,a3,a4,a5,a6,a7,a8,a9,b0,b1,b2,b3,b4,b5,b6,b7,b8,b9,())=>0≤m∧m≤a8.length∧a8.length=b8.length∧a8.length≤1000
def O_rSame6:Unit×Unit×Int×Int×Int×Int×Int×Int×List (Int×V)×List (List Int)×Int×List (Int×(Int×(Int×Bool)))×Int×Int×Int×Int×Int×Int×List (Int×V)×List (List Int)×Int×List (Int×(Int×(Int×Bool)))×Int×Unit→Tree (Exit×St):=fun ((),(),m,a0,a1,a2,a3,a4,a5,a6,a7,a8,a9,b0,b1,b2,b3,b4,b5,b6,b7,b8,b9,())=>.cond (decide (a8.drop m.toNat=b8.drop m.toNat)) (.leaf (.exit 6,L_rSame6_1.st noU ())) (.leaf (.ret,L_rSame6_0.st noU ((false),())))
def R_rSame6:LRun:=runOf 168 L_rSame6 (fun x=>x) (inv_rSame6) (O_rSame6)
theorem K_rSame6:LoopOk P [] 168 none noU C_rSame6 (R_rSame6):=by
 refine loop_of hm (cx:=[]) [] (xl:=X_rSame6) (α:=Unit×Unit×Int×Int×Int×Int×Int×Int×List (Int×V)×List (List Int)×Int×List (Int×(Int×(Int×Bool)))×Int×Int×Int×Int×Int×Int×List (Int×V)×List (List Int)×Int×List (Int×(Int×(Int×Bool)))×Int×Unit) (fun x=>x) (fun ((),(),m,a0,a1,a2,a3,a4,a5,a6,a7,a8,a9,b0,b1,b2,b3,b4,b5,b6,b7,b8,b9,())=>((a8.length:Int) - m).toNat) (fun _=>rfl) (by kernel_rfl) (by kernel_rfl) ?_ (by kernel_rfl) trivial ?_
 ·intro e S L' h
  unfold X_rSame6 at h
  split at h <;> first |(cases h; done) |(cases h; kernel_rfl) |(rcases bif_some h with h |h <;> cases h <;> kernel_rfl)
 ·rintro⟨⟨⟩,⟨⟩,m,a0,a1,a2,a3,a4,a5,a6,a7,a8,a9,b0,b1,b2,b3,b4,b5,b6,b7,b8,b9,⟨⟩⟩ hinv Q hQ
  refine hold_of_eq (B_rSame6 m a0 a1 a2 a3 a4 a5 a6 a7 a8 a9 b0 b1 b2 b3 b4 b5 b6 b7 b8 b9) ?_
  obtain⟨h0,h1,h2,h3⟩:=hinv
  rw[W_id (n:=m+1) (by omega) (by omega)]
  unfold O_rSame6 at hQ
  dsimp only at hQ
  refine⟨fun d1=>?_,fun d1=>?_⟩
  ·have d1:=dcT d1
   rw[eqd_step (0,0,0,false) h0 d1 h2] at hQ
   rw[pm_eq]
   refine⟨⟨h0,d1⟩,⟨h0,by omega⟩,fun d2=>?_,fun d2=>?_⟩
   ·have e:decide (a8.getD m.toNat (0,0,0,false)=b8.getD m.toNat (0,0,0,false))=false:=by simpa using d2
    rw[e,Bool.false_and] at hQ
    exact hQ.2 rfl
   ·have e:decide (a8.getD m.toNat (0,0,0,false)=b8.getD m.toNat (0,0,0,false))=true:=by simpa using d2
    rw[e,Bool.true_and] at hQ
    exact⟨⟨⟨by omega,by omega,h2,h3⟩,by show ((a8.length:Int) - (m+1)).toNat<((a8.length:Int) - m).toNat; omega⟩,hQ⟩
  ·have d1:=dcF d1
   rw[eqd_end d1 h2] at hQ
   exact hQ.1 rfl
theorem T_rSame (a_0 a_1 a_2 a_3 a_4:Int) (a_5:List (Int×V)) (a_6:List (List Int)) (a_7:Int) (a_8:List (Int×(Int×(Int×Bool)))) (a_9 b_0 b_1 b_2 b_3 b_4:Int) (b_5:List (Int×V)) (b_6:List (List Int)) (b_7:Int) (b_8:List (Int×(Int×(Int×Bool)))) (b_9:Int):fnTree (P:=P) [] (lpOf [(0,R_rSame0),(2,R_rSame2),(6,R_rSame6)]) Tryz.f20 (encL 0 [.agg (.pair tI (.pair tI (.pair tI (.pair tI (.pair tI (.pair (.pair (.sl (.pair tI tV)) (.pair (.sl tIs) tI)) (.pair (.sl (.pair tI (.pair tI (.pair tI .bool)))) tI))))))),.agg (.pair tI (.pair tI (.pair tI (.pair tI (.pair tI (.pair (.pair (.sl (.pair tI tV)) (.pair (.sl tIs) tI)) (.pair (.sl (.pair tI (.pair tI (.pair tI .bool)))) tI)))))))] ((a_0,(a_1,(a_2,(a_3,(a_4,((a_5,(a_6,a_7)),(a_8,a_9))))))),(b_0,(b_1,(b_2,(b_3,(b_4,((b_5,(b_6,b_7)),(b_8,b_9))))))),())) =
 Tree.cond (a_0 != b_0) (.leaf (.bool false)) (.cond (a_1 != b_1) (.leaf (.bool false)) (.cond (a_2 != b_2) (.leaf (.bool false)) (.cond (a_3 != b_3) (.leaf (.bool false)) (.cond (a_4 != b_4) (.leaf (.bool false)) (.cond (a_9 != b_9) (.leaf (.bool false)) (.cond (a_7 != b_7) (.leaf (.bool false)) (.cond ((a_5.length:Int) != (b_5.length:Int)) (.leaf (.bool false)) (.cond ((a_6.length:Int) != (b_6.length:Int)) (.leaf (.bool false)) (.cond ((a_8.length:Int) != (b_8.length:Int)) (.leaf (.bool false)) (.need (inv_rSame0 ((),(),(0:Int),a_0,a_1,a_2,a_3,a_4,a_5,a_6,a_7,a_8,a_9,b_0,b_1,b_2,b_3,b_4,b_5,b_6,b_7,b_8,b_9,())) (.cond (decide (List.drop (Int.toNat (0:Int)) a_5=List.drop (Int.toNat (0:Int)) b_5)) (.need (inv_rSame2 ((),(),(0:Int),a_0,a_1,a_2,a_3,a_4,a_5,a_6,a_7,a_8,a_9,b_0,b_1,b_2,b_3,b_4,b_5,b_6,b_7,b_8,b_9,())) (.cond (decide (List.drop (Int.toNat (0:Int)) a_6=List.drop (Int.toNat (0:Int)) b_6)) (.need (inv_rSame6 ((),(),(0:Int),a_0,a_1,a_2,a_3,a_4,a_5,a_6,a_7,a_8,a_9,b_0,b_1,b_2,b_3,b_4,b_5,b_6,b_7,b_8,b_9,())) (.cond (decide (List.drop (Int.toNat (0:Int)) a_8=List.drop (Int.toNat (0:Int)) b_8)) (.leaf (.bool true)) (.leaf (.bool false)))) (.leaf (.bool false)))) (.leaf (.bool false))))))))))))):=by kernel_rfl
def c_rSame:PC P:=PC.of (α:=(Int×(Int×(Int×(Int×(Int×((List (Int×V)×(List (List Int)×Int))×(List (Int×(Int×(Int×Bool)))×Int)))))))×(Int×(Int×(Int×(Int×(Int×((List (Int×V)×(List (List Int)×Int))×(List (Int×(Int×(Int×Bool)))×Int)))))))×Unit) 20 [.agg (.pair tI (.pair tI (.pair tI (.pair tI (.pair tI (.pair (.pair (.sl (.pair tI tV)) (.pair (.sl tIs) tI)) (.pair (.sl (.pair tI (.pair tI (.pair tI .bool)))) tI))))))),.agg (.pair tI (.pair tI (.pair tI (.pair tI (.pair tI (.pair (.pair (.sl (.pair tI tV)) (.pair (.sl tIs) tI)) (.pair (.sl (.pair tI (.pair tI (.pair tI .bool)))) tI)))))))] (fun x=>x) (fun x=>x) (fun _=>rfl)
 (fun x=>some (sOk x.1∧sOk x.2.1))
 (fun x=>.bool (sameB x.1 x.2.1)) (by kernel_rfl) (by
  rintro⟨⟨a_0,⟨a_1,⟨a_2,⟨a_3,⟨a_4,⟨⟨a_5,⟨a_6,a_7⟩⟩,⟨a_8,a_9⟩⟩⟩⟩⟩⟩⟩,⟨b_0,⟨b_1,⟨b_2,⟨b_3,⟨b_4,⟨⟨b_5,⟨b_6,b_7⟩⟩,⟨b_8,b_9⟩⟩⟩⟩⟩⟩⟩,⟨⟩⟩ hp
  refine fn_of hm (by kernel_rfl) (by kernel_rfl) (T_rSame a_0 a_1 a_2 a_3 a_4 a_5 a_6 a_7 a_8 a_9 b_0 b_1 b_2 b_3 b_4 b_5 b_6 b_7 b_8 b_9) ⟨K_rSame0,K_rSame2,K_rSame6,trivial⟩ ?_
  try dsimp only at hp
  try dsimp only
  obtain⟨⟨⟨p1,p2,p3⟩,p4⟩,⟨q1,q2,q3⟩,q4⟩:sOk (a_0,a_1,a_2,a_3,a_4,(a_5,a_6,a_7),a_8,a_9)∧sOk (b_0,b_1,b_2,b_3,b_4,(b_5,b_6,b_7),b_8,b_9):=hp
  dsimp only at p1 p2 p3 p4
  have fin:∀ n:Bool,sameB (a_0,a_1,a_2,a_3,a_4,(a_5,a_6,a_7),a_8,a_9) (b_0,b_1,b_2,b_3,b_4,(b_5,b_6,b_7),b_8,b_9)=n→SV.bool n=SV.bool (sameB (a_0,a_1,a_2,a_3,a_4,(a_5,a_6,a_7),a_8,a_9) (b_0,b_1,b_2,b_3,b_4,(b_5,b_6,b_7),b_8,b_9)):=fun n h=>by rw[h]
  have iff:sameB (a_0,a_1,a_2,a_3,a_4,(a_5,a_6,a_7),a_8,a_9) (b_0,b_1,b_2,b_3,b_4,(b_5,b_6,b_7),b_8,b_9)=true↔(a_0=b_0∧a_1=b_1∧a_2=b_2∧a_3=b_3∧a_4=b_4∧(a_5=b_5∧a_6=b_6∧a_7=b_7)∧a_8=b_8∧a_9=b_9):=by
   unfold sameB sameH; simp
  refine⟨fun c=>fin _ (Bool.eq_false_iff.2 fun h=>by obtain⟨rfl,rfl,rfl,rfl,rfl,⟨rfl,rfl,rfl⟩,rfl,rfl⟩:=iff.1 h; simp at c),fun c0=>⟨fun c=>fin _ (Bool.eq_false_iff.2 fun h=>by obtain⟨rfl,rfl,rfl,rfl,rfl,⟨rfl,rfl,rfl⟩,rfl,rfl⟩:=iff.1 h; simp at c),fun c1=>⟨fun c=>fin _ (Bool.eq_false_iff.2 fun h=>by obtain⟨rfl,rfl,rfl,rfl,rfl,⟨rfl,rfl,rfl⟩,rfl,rfl⟩:=iff.1 h; simp at c),fun c2=>⟨fun c=>fin _ (Bool.eq_false_iff.2 fun h=>by obtain⟨rfl,rfl,rfl,rfl,rfl,⟨rfl,rfl,rfl⟩,rfl,rfl⟩:=iff.1 h; simp at c),fun c3=>⟨fun c=>fin _ (Bool.eq_false_iff.2 fun h=>by obtain⟨rfl,rfl,rfl,rfl,rfl,⟨rfl,rfl,rfl⟩,rfl,rfl⟩:=iff.1 h; simp at c),fun c4=>⟨fun c=>fin _ (Bool.eq_false_iff.2 fun h=>by obtain⟨rfl,rfl,rfl,rfl,rfl,⟨rfl,rfl,rfl⟩,rfl,rfl⟩:=iff.1 h; simp at c),fun c5=>⟨fun c=>fin _ (Bool.eq_false_iff.2 fun h=>by obtain⟨rfl,rfl,rfl,rfl,rfl,⟨rfl,rfl,rfl⟩,rfl,rfl⟩:=iff.1 h; simp at c),fun c6=>⟨fun c=>fin _ (Bool.eq_false_iff.2 fun h=>by obtain⟨rfl,rfl,rfl,rfl,rfl,⟨rfl,rfl,rfl⟩,rfl,rfl⟩:=iff.1 h; simp at c),fun c7=>⟨fun c=>fin _ (Bool.eq_false_iff.2 fun h=>by obtain⟨rfl,rfl,rfl,rfl,rfl,⟨rfl,rfl,rfl⟩,rfl,rfl⟩:=iff.1 h; simp at c),fun c8=>⟨fun c=>fin _ (Bool.eq_false_iff.2 fun h=>by obtain⟨rfl,rfl,rfl,rfl,rfl,⟨rfl,rfl,rfl⟩,rfl,rfl⟩:=iff.1 h; simp at c),fun c9=>?_⟩⟩⟩⟩⟩⟩⟩⟩⟩⟩
  simp only[bne_eq_false_iff_eq] at c0 c1 c2 c3 c4 c5 c6 c7 c8 c9
  refine⟨⟨by decide,by omega,by omega,p1⟩,fun d0=>⟨⟨by decide,by omega,by omega,p2,p3⟩,fun d2=>⟨⟨by decide,by omega,by omega,p4⟩,fun d6=>fin _ ?_,fun d6=>fin _ ?_⟩,fun d2=>fin _ ?_⟩,fun d0=>fin _ ?_⟩
  ·have d0:a_5=b_5:=dcT d0
   have d2:a_6=b_6:=dcT d2
   have d6:a_8=b_8:=dcT d6
   exact iff.2 ⟨c0,c1,c2,c3,c4,⟨d0,d2,c6⟩,d6,c5⟩
  ·have d6:¬ a_8=b_8:=dcF d6
   exact Bool.eq_false_iff.2 fun h=>d6 (iff.1 h).2.2.2.2.2.2.1
  ·have d2:¬ a_6=b_6:=dcF d2
   exact Bool.eq_false_iff.2 fun h=>d2 (iff.1 h).2.2.2.2.2.1.2.1
  ·have d0:¬ a_5=b_5:=dcF d0
   exact Bool.eq_false_iff.2 fun h=>d0 (iff.1 h).2.2.2.2.2.1.1)
end
end Go.MB
