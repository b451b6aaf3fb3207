/- Logs: the reference's Log, Read and Replay. -/
import Derived.Test.YtfhomgggbhjglaaGreatMeJ
import Derived.Test.YtfhomgggbhjglaaGreatMeL
import Derived.Test.YtfhomgggbhjglaaGreatMcG
namespace Go.MB
open Go Go.Sx Go.Proofs
set_option linter.unusedVariables false
set_option linter.unusedSimpArgs false
noncomputable section
theorem rwD_len{α:Type}(rd:Rd->α×Rd) (m:Nat) (r:Rd):(rwD rd (m:Int) r).1.length<=m:=by
 unfold rwD
 rw[rowsS_len]
 have:=uptoD_rng (most:=(m:Int)) (Int.natCast_nonneg m) r
 omega
theorem rwD_all{α:Type}{rd:Rd->α×Rd}{p:α->Prop}(h:∀r,p (rd r).1) (m:Int) (r:Rd):∀x∈(rwD rd m r).1,p x:=rowsS_all h _ _
theorem readD_rng(r:Rd):(readD r).1.2.2.2.2.2.1.1.length<=10/\(readD r).1.2.2.2.2.2.1.2.1.length<=8/\(∀q∈(readD r).1.2.2.2.2.2.1.2.1,q.length<=10)/\(readD r).1.2.2.2.2.2.2.1.length<=16:=by
 unfold readD hsD
 dsimp only
 exact⟨rwD_len elD 10 _,rwD_len (rwD (zC 10) 10) 8 _,rwD_all (p:=fun q:List Int=>q.length<=10) (fun r=>rwD_len (zC 10) 10 r) 8 _,rwD_len pmD 16 _⟩
theorem end_bad(a:Raw×Rd)(h:¬ a.2.2=false):endS (toR a)=(zSite,[],3):=if_pos (.inl (show a.2.2=true by cases k:a.2.2 with |true=>rfl |false=>exact absurd k h))
theorem all_stk(q:ByteArray):¬ (allR (q,true)).2.2=false:=fun k=>Bool.noConfusion (show true=false from agr_all.sp _ k)
theorem readR_stk(q:ByteArray):endS (readR (q,true))=(zSite,[],3):=(congrArg endS (readR_all _)).trans (end_bad _ (all_stk q))
theorem readS_eq(q:ByteArray):jB q=if q.size<4\/(q.extract 0 4).toList≠magic.toList then (zSite,[],3) else endS (readD (q.extract 4 q.size,false)):=by
 have hz:magic.size=4:=rfl
 unfold jB
 split
 ·rename_i c
  have hp:pfxS q magic=false:=by
   unfold pfxS
   rw[hz]
   rcases c with c |c
   ·rw[decide_eq_false (by omega),Bool.false_and]
   ·rw[Bool.and_eq_false_iff]
    exact .inr (by simpa using c)
  have hc:cutP q magic=(q,false):=by
   unfold cutP
   rw[if_neg (by rw[hp];decide)]
  rw[hc]
  exact readR_stk q
 ·rename_i c
  have hp:pfxS q magic=true:=by
   unfold pfxS
   rw[hz,decide_eq_true (show 4<=q.size by omega),Bool.true_and,beq_iff_eq]
   exact Decidable.not_not.1 fun k=>c (.inr k)
  have hc:cutP q magic=(q.extract 4 q.size,true):=by
   unfold cutP
   rw[if_pos hp,hz]
  rw[hc,same_end]
  rfl
theorem T_rLog(z A B C D:Int)(E:List (Int×V))(F:List (List Int))(G:Int)(H:List (Int×(Int×(Int×Bool))))(I:Int)(l:List (Int×(Int×(Int×V)))):zU (P:=P) [c_rCheck.gc,c_rwritten.gc] (zI []) Tryz.f27 (jM 0 [.agg (.pair tI (.pair tI (.pair tI (.pair tI (.pair tI (.pair (.pair (.sl (.pair tI tV)) (.pair (.sl tIs) tI)) (.pair (.sl (.pair tI (.pair tI (.pair tI .bool)))) tI))))))),.val (.sl (.pair tI (.pair tI (.pair tI tV))))] ((z,(A,(B,(C,(D,((E,(F,G)),(H,I))))))),l,())) =
 Tree.need (sOk (z,A,B,C,D,(E,F,G),H,I)) (.cond (chkS (z,A,B,C,D,(E,F,G),H,I) != 0) (.leaf (.tup [SV.str { data:=#[] },.int .i64 (chkS (z,A,B,C,D,(E,F,G),H,I))])) (.cond (decide ((l.length:Int)>200)) (.leaf (.tup [SV.str { data:=#[] },.int .i64 8])) (.need (sOk (z,A,B,C,D,(E,F,G),H,I)/\l.length<=1000) (.leaf (.tup [SV.str (strOfNums ([(109:Int),(112:Int),(108:Int),(49:Int)]++bysN (numsS (z,A,B,C,D,(E,F,G),H,I) l))),.int .i64 0]))))):=by kernel_rfl
def c_rLog:PC P:=PC.of (α:=(Int×(Int×(Int×(Int×(Int×((List (Int×V)×(List (List Int)×Int))×(List (Int×(Int×(Int×Bool)))×Int)))))))×List (Int×(Int×(Int×V)))×Unit) 27 [.agg (.pair tI (.pair tI (.pair tI (.pair tI (.pair tI (.pair (.pair (.sl (.pair tI tV)) (.pair (.sl tIs) tI)) (.pair (.sl (.pair tI (.pair tI (.pair tI .bool)))) tI))))))),.val (.sl (.pair tI (.pair tI (.pair tI tV))))] (fun x=>x) (fun x=>x) (fun _=>rfl)
 (fun x=>some (sOk x.1))
 (fun x=>.tup [.str (logS x.1 x.2.1).1,.int .i64 (logS x.1 x.2.1).2]) (by kernel_rfl) (by
  rintro⟨⟨z,⟨A,⟨B,⟨C,⟨D,⟨⟨E,⟨F,G⟩⟩,⟨H,I⟩⟩⟩⟩⟩⟩⟩,l,⟨⟩⟩ hp
  refine fn_of hm (by kernel_rfl) (by kernel_rfl) (T_rLog z A B C D E F G H I l) trivial ?_
  try dsimp only at hp
  try dsimp only
  have hp:sOk (z,A,B,C,D,(E,F,G),H,I):=hp
  unfold logS
  refine⟨hp,⟨fun c1=>?_,fun c1=>⟨fun c2=>?_,fun c2=>⟨⟨hp,?_⟩,?_⟩⟩⟩⟩
  ·rw[if_pos (bneT c1)]
   exact rfl
  ·have c2:=dcT c2
   rw[if_neg (fun k=>k (bneF c1)),if_pos (show 200<l.length by omega)]
   exact rfl
  ·have c2:=dcF c2
   omega
  ·have c2:=dcF c2
   rw[if_neg (fun k=>k (bneF c1)),if_neg (show ¬ 200<l.length by omega)]
   exact rfl)
attribute [local irreducible] zB zC hsD chkS
def L_rrd0:Lay:={ slots:=[(2,.ptr 3118 0),(5,.ptr 25118 0),(6,.ptr 7118 0),(7,.val tI)],boxes:=[(3118,[.val tI,.val tI,.val tI,.val tI,.val tI,.val (.sl (.pair tI tV)),.val (.sl tIs),.val tI,.val (.sl (.pair tI (.pair tI (.pair tI .bool)))),.val tI]),(7118,[.val tI,.val tI,.val tI,.val tI,.val tI,.val (.sl (.pair tI tV)),.val (.sl tIs),.val tI,.row 49 (.pair tI (.pair tI (.pair tI .bool))),.val tI]),(25118,[.val .str,.val .bool])] }
def L_rrd0_0:Lay:={ slots:=[(2,.ptr 3118 0),(5,.ptr 25118 0),(6,.ptr 7118 0)],boxes:=[(3118,[.val tI,.val tI,.val tI,.val tI,.val tI,.val (.sl (.pair tI tV)),.val (.sl tIs),.val tI,.val (.sl (.pair tI (.pair tI (.pair tI .bool)))),.val tI]),(7118,[.val tI,.val tI,.val tI,.val tI,.val tI,.val (.sl (.pair tI tV)),.val (.sl tIs),.val tI,.row 49 (.pair tI (.pair tI (.pair tI .bool))),.val tI]),(25118,[.val .str,.val .bool])] }
def X_rrd0:Exit->St->Option Lay
 |.exit 0,_=>some L_rrd0_0
 |_,_=>none
abbrev C_rrd0:Code:=zQ (zJ Tryz.f30) 0
abbrev AeM2:Type:=Unit×Unit×Unit×Int×Int×Int×Int×Int×Int×List (Int×V)×List (List Int)×Int×List (Int×(Int×(Int×Bool)))×Int×Int×Int×Int×Int×Int×List (Int×V)×List (List Int)×Int×List (Int×(Int×(Int×Bool)))×Int×ByteArray×Bool×Unit
theorem B_rrd0(i z0 z1 z2 z3 z4:Int)(z5:List (Int×V))(z6:List (List Int))(z7:Int)(z8:List (Int×(Int×(Int×Bool))))(z9 d f g o t:Int)(u:List (Int×V))(v:List (List Int))(w:Int)(b:List (Int×(Int×(Int×Bool))))(y:Int)(s:ByteArray)(bad:Bool):zG (P:=P) [c_upto.gc,c_rnext.gc] (zI []) [] 118 noU (zN C_rrd0) L_rrd0 X_rrd0 (α:=AeM2) (fun x=>x) (fun x=>x) ((),(),(),i,z0,z1,z2,z3,z4,z5,z6,z7,z8,z9,d,f,g,o,t,u,v,w,b,y,s,bad,()) =
 Tree.cond (decide (i>0)) (.need ((b.length+List.length [((zC 16 (s,bad)).1,(zC 20 (zC 16 (s,bad)).2).1,(zB (zC 20 (zC 16 (s,bad)).2).2).1,(zC 1 (zB (zC 20 (zC 16 (s,bad)).2).2).2).1==1)])*32<=140737488355328) (.leaf (Sum.inl ((),(),(),IntKind.i64.wrap (i - 1),z0,z1,z2,z3,z4,z5,z6,z7,z8,z9,d,f,g,o,t,u,v,w,b++[((zC 16 (s,bad)).1,(zC 20 (zC 16 (s,bad)).2).1,(zB (zC 20 (zC 16 (s,bad)).2).2).1,(zC 1 (zB (zC 20 (zC 16 (s,bad)).2).2).2).1==1)],y,(zC 1 (zB (zC 20 (zC 16 (s,bad)).2).2).2).2.1,(zC 1 (zB (zC 20 (zC 16 (s,bad)).2).2).2).2.2,())))) (.leaf (Sum.inr (Exit.exit 0,Lay.st L_rrd0_0 noU ((),(),(),z0,z1,z2,z3,z4,z5,z6,z7,z8,z9,d,f,g,o,t,u,v,w,b,y,s,bad,())))):=by kernel_rfl
def inv_rrd0:AeM2->Prop:=fun(_,_,_,i,_,_,_,_,_,_,_,_,_,_,_,_,_,_,_,_,_,_,b,_)=>0<=i/\i<=16/\(b.length:Int)<=16 - i
def O_rrd0:AeM2->Tree (Exit×St):=fun(_,_,_,i,z0,z1,z2,z3,z4,z5,z6,z7,z8,z9,d,f,g,o,t,u,v,w,b,y,s,bad,_)=>(.leaf (.exit 0,L_rrd0_0.st noU ((),(),(),z0,z1,z2,z3,z4,z5,z6,z7,z8,z9,d,f,g,o,t,u,v,w,((zO pmD b i.toNat (s,bad)).1),y,((zO pmD b i.toNat (s,bad)).2.1),((zO pmD b i.toNat (s,bad)).2.2),())))
def R_rrd0:jA:=zY 118 L_rrd0 (fun x=>x) inv_rrd0 O_rrd0
theorem K_rrd0:zL P [] 118 none noU C_rrd0 R_rrd0:=by
 refine zM hm (cx:=[c_upto.gc,c_rnext.gc]) [] (xl:=X_rrd0) (α:=AeM2) (fun x=>x) (fun(_,_,_,i,_)=>i.toNat) (fun _=>rfl) (by kernel_rfl) (by kernel_rfl) ?_ (by kernel_rfl) trivial ?_
 ·intro e S L' h
  unfold X_rrd0 at h
  split at h<;>cases h<;>kernel_rfl
 ·rintro⟨⟨⟩,⟨⟩,⟨⟩,i,z0,z1,z2,z3,z4,z5,z6,z7,z8,z9,d,f,g,o,t,u,v,w,b,y,s,bad,⟨⟩⟩ hinv Q hQ
  refine zF (B_rrd0 i z0 z1 z2 z3 z4 z5 z6 z7 z8 z9 d f g o t u v w b y s bad) ?_
  obtain⟨h0,h1,h2⟩:=hinv
  unfold O_rrd0 at hQ
  dsimp only at hQ
  refine⟨fun c1=>⟨by simp only[List.length_cons,List.length_nil];omega,?_⟩,fun c1=>?_⟩
  ·have c1:=dcT c1
   rw[jK (n:=i - 1) (by omega) (by omega)]
   rw[show i.toNat=(i - 1).toNat+1 by omega,rowsA_step] at hQ
   exact⟨⟨⟨by omega,by omega,by simp only[List.length_append,List.length_cons,List.length_nil];omega⟩,by show (i - 1).toNat<i.toNat;omega⟩,hQ⟩
  ·have c1:=dcF c1
   rw[show i.toNat=0 by omega,rowsA_zero] at hQ
   exact hQ
def L_rrd2:Lay:={ slots:=[(2,.ptr 3118 0),(5,.ptr 25118 0),(6,.ptr 7118 0),(9,.row 30 (.pair tI (.pair tI (.pair tI tV)))),(10,.val tI)],boxes:=[(3118,[.val tI,.val tI,.val tI,.val tI,.val tI,.val (.sl (.pair tI tV)),.val (.sl tIs),.val tI,.val (.sl (.pair tI (.pair tI (.pair tI .bool)))),.val tI]),(7118,[.val tI,.val tI,.val tI,.val tI,.val tI,.val (.sl (.pair tI tV)),.val (.sl tIs),.val tI,.row 49 (.pair tI (.pair tI (.pair tI .bool))),.val tI]),(25118,[.val .str,.val .bool])] }
def L_rrd2_0:Lay:={ slots:=[(2,.ptr 3118 0),(5,.ptr 25118 0),(6,.ptr 7118 0),(9,.row 30 (.pair tI (.pair tI (.pair tI tV))))],boxes:=[(3118,[.val tI,.val tI,.val tI,.val tI,.val tI,.val (.sl (.pair tI tV)),.val (.sl tIs),.val tI,.val (.sl (.pair tI (.pair tI (.pair tI .bool)))),.val tI]),(7118,[.val tI,.val tI,.val tI,.val tI,.val tI,.val (.sl (.pair tI tV)),.val (.sl tIs),.val tI,.row 49 (.pair tI (.pair tI (.pair tI .bool))),.val tI]),(25118,[.val .str,.val .bool])] }
def X_rrd2:Exit->St->Option Lay
 |.exit 2,_=>some L_rrd2_0
 |_,_=>none
abbrev C_rrd2:Code:=zQ (zJ Tryz.f30) 2
abbrev AeM1:Type:=Unit×Unit×Unit×List (Int×(Int×(Int×V)))×Int×Int×Int×Int×Int×Int×List (Int×V)×List (List Int)×Int×List (Int×(Int×(Int×Bool)))×Int×Int×Int×Int×Int×Int×List (Int×V)×List (List Int)×Int×List (Int×(Int×(Int×Bool)))×Int×ByteArray×Bool×Unit
theorem B_rrd2(l:List (Int×(Int×(Int×V))))(j z0 z1 z2 z3 z4:Int)(z5:List (Int×V))(z6:List (List Int))(z7:Int)(z8:List (Int×(Int×(Int×Bool))))(z9 d f g o t:Int)(u:List (Int×V))(v:List (List Int))(w:Int)(b:List (Int×(Int×(Int×Bool))))(y:Int)(s:ByteArray)(bad:Bool):zG (P:=P) [c_rnext.gc] (zI []) [] 118 noU (zN C_rrd2) L_rrd2 X_rrd2 (α:=AeM1) (fun x=>x) (fun x=>x) ((),(),(),l,j,z0,z1,z2,z3,z4,z5,z6,z7,z8,z9,d,f,g,o,t,u,v,w,b,y,s,bad,()) =
 Tree.cond (decide (j>0)) (.need ((l.length+List.length [((zB (s,bad)).1,(zB (zB (s,bad)).2).1,(zB (zB (zB (s,bad)).2).2).1,(zB (zB (zB (zB (s,bad)).2).2).2).1,(zB (zB (zB (zB (zB (s,bad)).2).2).2).2).1,(zB (zB (zB (zB (zB (zB (s,bad)).2).2).2).2).2).1)])*48<=140737488355328) (.leaf (Sum.inl ((),(),(),l++[((zB (s,bad)).1,(zB (zB (s,bad)).2).1,(zB (zB (zB (s,bad)).2).2).1,(zB (zB (zB (zB (s,bad)).2).2).2).1,(zB (zB (zB (zB (zB (s,bad)).2).2).2).2).1,(zB (zB (zB (zB (zB (zB (s,bad)).2).2).2).2).2).1)],IntKind.i64.wrap (j - 1),z0,z1,z2,z3,z4,z5,z6,z7,z8,z9,d,f,g,o,t,u,v,w,b,y,(zB (zB (zB (zB (zB (zB (s,bad)).2).2).2).2).2).2.1,(zB (zB (zB (zB (zB (zB (s,bad)).2).2).2).2).2).2.2,())))) (.leaf (Sum.inr (Exit.exit 2,Lay.st L_rrd2_0 noU ((),(),(),l,z0,z1,z2,z3,z4,z5,z6,z7,z8,z9,d,f,g,o,t,u,v,w,b,y,s,bad,())))):=by kernel_rfl
def inv_rrd2:AeM1->Prop:=fun(_,_,_,l,j,_)=>0<=j/\j<=200/\(l.length:Int)<=200 - j
def O_rrd2:AeM1->Tree (Exit×St):=fun(_,_,_,l,j,z0,z1,z2,z3,z4,z5,z6,z7,z8,z9,d,f,g,o,t,u,v,w,b,y,s,bad,_)=>(.leaf (.exit 2,L_rrd2_0.st noU ((),(),(),((zO enD l j.toNat (s,bad)).1),z0,z1,z2,z3,z4,z5,z6,z7,z8,z9,d,f,g,o,t,u,v,w,b,y,((zO enD l j.toNat (s,bad)).2.1),((zO enD l j.toNat (s,bad)).2.2),())))
def R_rrd2:jA:=zY 118 L_rrd2 (fun x=>x) inv_rrd2 O_rrd2
theorem K_rrd2:zL P [] 118 none noU C_rrd2 R_rrd2:=by
 refine zM hm (cx:=[c_rnext.gc]) [] (xl:=X_rrd2) (α:=AeM1) (fun x=>x) (fun(_,_,_,_,j,_)=>j.toNat) (fun _=>rfl) (by kernel_rfl) (by kernel_rfl) ?_ (by kernel_rfl) trivial ?_
 ·intro e S L' h
  unfold X_rrd2 at h
  split at h<;>cases h<;>kernel_rfl
 ·rintro⟨⟨⟩,⟨⟩,⟨⟩,l,j,z0,z1,z2,z3,z4,z5,z6,z7,z8,z9,d,f,g,o,t,u,v,w,b,y,s,bad,⟨⟩⟩ hinv Q hQ
  refine zF (B_rrd2 l j z0 z1 z2 z3 z4 z5 z6 z7 z8 z9 d f g o t u v w b y s bad) ?_
  obtain⟨h0,h1,h2⟩:=hinv
  unfold O_rrd2 at hQ
  dsimp only at hQ
  refine⟨fun c1=>⟨by simp only[List.length_cons,List.length_nil];omega,?_⟩,fun c1=>?_⟩
  ·have c1:=dcT c1
   rw[jK (n:=j - 1) (by omega) (by omega)]
   rw[show j.toNat=(j - 1).toNat+1 by omega,rowsA_step] at hQ
   exact⟨⟨⟨by omega,by omega,by simp only[List.length_append,List.length_cons,List.length_nil];omega⟩,by show (j - 1).toNat<j.toNat;omega⟩,hQ⟩
  ·have c1:=dcF c1
   rw[show j.toNat=0 by omega,rowsA_zero] at hQ
   exact hQ
theorem T_rRead(q:ByteArray)(x1_:Nat)(hx1_:x1_=(Int.toNat (zC (16:Int) (hsD (zB (zB (zC (20:Int) (zC (20:Int) (zB (ByteArray.extract q (Int.toNat (4:Int)) (ByteArray.size q),false)).2).2).2).2).2).2).1))(x2_:Nat)(hx2_:x2_=(Int.toNat (zC (200:Int) (zB (zO pmD [] x1_ (zC (16:Int) (hsD (zB (zB (zC (20:Int) (zC (20:Int) (zB (ByteArray.extract q (Int.toNat (4:Int)) (ByteArray.size q),false)).2).2).2).2).2).2).2).2).2).1)):zU (P:=P) [c_rnext.gc,c_upto.gc,c_rhouse.gc,c_rCheck.gc] (zI [(0,R_rrd0),(2,R_rrd2)]) Tryz.f30 (jM 0 [.val .str] (q,())) =
 Tree.cond (decide ((↑(ByteArray.size q):Int)<4)) (.leaf (.tup [.agg [.int .i64 0,.int .i64 0,.int .i64 0,.int .i64 0,.int .i64 0,.nils,.nils,.int .i64 0,.nils,.int .i64 0],.nils,.int .i64 3])) (.need ((0:Int)<=4/\4<=(↑(ByteArray.size q):Int)) (.cond (!ByteArray.toList (ByteArray.extract q 0 (Int.toNat 4))==ByteArray.toList { data:=#[(109:UInt8),(112:UInt8),(108:UInt8),(49:UInt8)] }) (.leaf (.tup [.agg [.int .i64 0,.int .i64 0,.int .i64 0,.int .i64 0,.int .i64 0,.nils,.nils,.int .i64 0,.nils,.int .i64 0],.nils,.int .i64 3])) (.need ((0:Int)<=4/\4<=(↑(ByteArray.size q):Int)) (.need (inv_rrd0 ((),(),(),(zC 16 (hsD (zB (zB (zC 20 (zC 20 (zB (ByteArray.extract q (Int.toNat 4) (ByteArray.size q),false)).2).2).2).2).2).2).1,0,0,0,0,0,[],[],0,[],0,(zB (ByteArray.extract q (Int.toNat 4) (ByteArray.size q),false)).1,(zC 20 (zB (ByteArray.extract q (Int.toNat 4) (ByteArray.size q),false)).2).1,(zC 20 (zC 20 (zB (ByteArray.extract q (Int.toNat 4) (ByteArray.size q),false)).2).2).1,(zB (zC 20 (zC 20 (zB (ByteArray.extract q (Int.toNat 4) (ByteArray.size q),false)).2).2).2).1,(zB (zB (zC 20 (zC 20 (zB (ByteArray.extract q (Int.toNat 4) (ByteArray.size q),false)).2).2).2).2).1,(hsD (zB (zB (zC 20 (zC 20 (zB (ByteArray.extract q (Int.toNat 4) (ByteArray.size q),false)).2).2).2).2).2).1.1,(hsD (zB (zB (zC 20 (zC 20 (zB (ByteArray.extract q (Int.toNat 4) (ByteArray.size q),false)).2).2).2).2).2).1.2.1,(hsD (zB (zB (zC 20 (zC 20 (zB (ByteArray.extract q (Int.toNat 4) (ByteArray.size q),false)).2).2).2).2).2).1.2.2,[],0,(zC 16 (hsD (zB (zB (zC 20 (zC 20 (zB (ByteArray.extract q (Int.toNat 4) (ByteArray.size q),false)).2).2).2).2).2).2).2.1,(zC 16 (hsD (zB (zB (zC 20 (zC 20 (zB (ByteArray.extract q (Int.toNat 4) (ByteArray.size q),false)).2).2).2).2).2).2).2.2,())) (.need (inv_rrd2 ((),(),(),[],(zC 200 (zB (zO pmD [] x1_ (zC 16 (hsD (zB (zB (zC 20 (zC 20 (zB (ByteArray.extract q (Int.toNat 4) (ByteArray.size q),false)).2).2).2).2).2).2).2).2).2).1,0,0,0,0,0,[],[],0,[],0,(zB (ByteArray.extract q (Int.toNat 4) (ByteArray.size q),false)).1,(zC 20 (zB (ByteArray.extract q (Int.toNat 4) (ByteArray.size q),false)).2).1,(zC 20 (zC 20 (zB (ByteArray.extract q (Int.toNat 4) (ByteArray.size q),false)).2).2).1,(zB (zC 20 (zC 20 (zB (ByteArray.extract q (Int.toNat 4) (ByteArray.size q),false)).2).2).2).1,(zB (zB (zC 20 (zC 20 (zB (ByteArray.extract q (Int.toNat 4) (ByteArray.size q),false)).2).2).2).2).1,(hsD (zB (zB (zC 20 (zC 20 (zB (ByteArray.extract q (Int.toNat 4) (ByteArray.size q),false)).2).2).2).2).2).1.1,(hsD (zB (zB (zC 20 (zC 20 (zB (ByteArray.extract q (Int.toNat 4) (ByteArray.size q),false)).2).2).2).2).2).1.2.1,(hsD (zB (zB (zC 20 (zC 20 (zB (ByteArray.extract q (Int.toNat 4) (ByteArray.size q),false)).2).2).2).2).2).1.2.2,(zO pmD [] x1_ (zC 16 (hsD (zB (zB (zC 20 (zC 20 (zB (ByteArray.extract q (Int.toNat 4) (ByteArray.size q),false)).2).2).2).2).2).2).2).1,(zB (zO pmD [] x1_ (zC 16 (hsD (zB (zB (zC 20 (zC 20 (zB (ByteArray.extract q (Int.toNat 4) (ByteArray.size q),false)).2).2).2).2).2).2).2).2).1,(zC 200 (zB (zO pmD [] x1_ (zC 16 (hsD (zB (zB (zC 20 (zC 20 (zB (ByteArray.extract q (Int.toNat 4) (ByteArray.size q),false)).2).2).2).2).2).2).2).2).2).2.1,(zC 200 (zB (zO pmD [] x1_ (zC 16 (hsD (zB (zB (zC 20 (zC 20 (zB (ByteArray.extract q (Int.toNat 4) (ByteArray.size q),false)).2).2).2).2).2).2).2).2).2).2.2,())) (.cond (zO enD [] x2_ (zC 200 (zB (zO pmD [] x1_ (zC 16 (hsD (zB (zB (zC 20 (zC 20 (zB (ByteArray.extract q (Int.toNat 4) (ByteArray.size q),false)).2).2).2).2).2).2).2).2).2).2).2.2 (.leaf (.tup [.agg [.int .i64 0,.int .i64 0,.int .i64 0,.int .i64 0,.int .i64 0,.nils,.nils,.int .i64 0,.nils,.int .i64 0],.nils,.int .i64 3])) (.cond (!ByteArray.toList (zO enD [] x2_ (zC 200 (zB (zO pmD [] x1_ (zC 16 (hsD (zB (zB (zC 20 (zC 20 (zB (ByteArray.extract q (Int.toNat 4) (ByteArray.size q),false)).2).2).2).2).2).2).2).2).2).2).2.1==ByteArray.toList { data:=#[] }) (.leaf (.tup [.agg [.int .i64 0,.int .i64 0,.int .i64 0,.int .i64 0,.int .i64 0,.nils,.nils,.int .i64 0,.nils,.int .i64 0],.nils,.int .i64 3])) (.need (sOk ((zB (ByteArray.extract q (Int.toNat 4) (ByteArray.size q),false)).1,(zC 20 (zB (ByteArray.extract q (Int.toNat 4) (ByteArray.size q),false)).2).1,(zC 20 (zC 20 (zB (ByteArray.extract q (Int.toNat 4) (ByteArray.size q),false)).2).2).1,(zB (zC 20 (zC 20 (zB (ByteArray.extract q (Int.toNat 4) (ByteArray.size q),false)).2).2).2).1,(zB (zB (zC 20 (zC 20 (zB (ByteArray.extract q (Int.toNat 4) (ByteArray.size q),false)).2).2).2).2).1,(hsD (zB (zB (zC 20 (zC 20 (zB (ByteArray.extract q (Int.toNat 4) (ByteArray.size q),false)).2).2).2).2).2).1,(zO pmD [] x1_ (zC 16 (hsD (zB (zB (zC 20 (zC 20 (zB (ByteArray.extract q (Int.toNat 4) (ByteArray.size q),false)).2).2).2).2).2).2).2).1,(zB (zO pmD [] x1_ (zC 16 (hsD (zB (zB (zC 20 (zC 20 (zB (ByteArray.extract q (Int.toNat 4) (ByteArray.size q),false)).2).2).2).2).2).2).2).2).1)) (.cond (chkS ((zB (ByteArray.extract q (Int.toNat 4) (ByteArray.size q),false)).1,(zC 20 (zB (ByteArray.extract q (Int.toNat 4) (ByteArray.size q),false)).2).1,(zC 20 (zC 20 (zB (ByteArray.extract q (Int.toNat 4) (ByteArray.size q),false)).2).2).1,(zB (zC 20 (zC 20 (zB (ByteArray.extract q (Int.toNat 4) (ByteArray.size q),false)).2).2).2).1,(zB (zB (zC 20 (zC 20 (zB (ByteArray.extract q (Int.toNat 4) (ByteArray.size q),false)).2).2).2).2).1,(hsD (zB (zB (zC 20 (zC 20 (zB (ByteArray.extract q (Int.toNat 4) (ByteArray.size q),false)).2).2).2).2).2).1,(zO pmD [] x1_ (zC 16 (hsD (zB (zB (zC 20 (zC 20 (zB (ByteArray.extract q (Int.toNat 4) (ByteArray.size q),false)).2).2).2).2).2).2).2).1,(zB (zO pmD [] x1_ (zC 16 (hsD (zB (zB (zC 20 (zC 20 (zB (ByteArray.extract q (Int.toNat 4) (ByteArray.size q),false)).2).2).2).2).2).2).2).2).1) != 0) (.leaf (.tup [.agg [.int .i64 0,.int .i64 0,.int .i64 0,.int .i64 0,.int .i64 0,.nils,.nils,.int .i64 0,.nils,.int .i64 0],.nils,.int .i64 3])) (.leaf (.tup [.agg [.int .i64 (zB (ByteArray.extract q (Int.toNat 4) (ByteArray.size q),false)).1,.int .i64 (zC 20 (zB (ByteArray.extract q (Int.toNat 4) (ByteArray.size q),false)).2).1,.int .i64 (zC 20 (zC 20 (zB (ByteArray.extract q (Int.toNat 4) (ByteArray.size q),false)).2).2).1,.int .i64 (zB (zC 20 (zC 20 (zB (ByteArray.extract q (Int.toNat 4) (ByteArray.size q),false)).2).2).2).1,.int .i64 (zB (zB (zC 20 (zC 20 (zB (ByteArray.extract q (Int.toNat 4) (ByteArray.size q),false)).2).2).2).2).1,.sl (Ty.pair tI tV) (hsD (zB (zB (zC 20 (zC 20 (zB (ByteArray.extract q (Int.toNat 4) (ByteArray.size q),false)).2).2).2).2).2).1.1,.sl (Ty.sl tI) (hsD (zB (zB (zC 20 (zC 20 (zB (ByteArray.extract q (Int.toNat 4) (ByteArray.size q),false)).2).2).2).2).2).1.2.1,.int .i64 (hsD (zB (zB (zC 20 (zC 20 (zB (ByteArray.extract q (Int.toNat 4) (ByteArray.size q),false)).2).2).2).2).2).1.2.2,.sl (Ty.pair tI (Ty.pair tI (Ty.pair tI Ty.bool))) (zO pmD [] x1_ (zC 16 (hsD (zB (zB (zC 20 (zC 20 (zB (ByteArray.extract q (Int.toNat 4) (ByteArray.size q),false)).2).2).2).2).2).2).2).1,.int .i64 (zB (zO pmD [] x1_ (zC 16 (hsD (zB (zB (zC 20 (zC 20 (zB (ByteArray.extract q (Int.toNat 4) (ByteArray.size q),false)).2).2).2).2).2).2).2).2).1],.sl (Ty.pair tI (Ty.pair tI (Ty.pair tI tV))) (zO enD [] x2_ (zC 200 (zB (zO pmD [] x1_ (zC 16 (hsD (zB (zB (zC 20 (zC 20 (zB (ByteArray.extract q (Int.toNat 4) (ByteArray.size q),false)).2).2).2).2).2).2).2).2).2).2).1,.int .i64 0]))))))))))):=by
 subst hx2_;subst hx1_;kernel_rfl
def c_rRead:PC P:=PC.of (α:=ByteArray×Unit) 30 [.val .str] (fun x=>x) (fun x=>x) (fun _=>rfl)
 (fun _=>none)
 (fun x=>resR (jB x.1)) (by kernel_rfl) (by
  rintro⟨q,⟨⟩⟩ hp
  refine fn_le hm (by kernel_rfl) (by kernel_rfl) (T_rRead q _ rfl _ rfl) ⟨K_rrd0,K_rrd2,trivial⟩ (by kernel_rfl) ?_
  try dsimp only at hp
  try dsimp only
  rw[readS_eq,show Int.toNat 4=4 from rfl]
  refine⟨fun c1=>?_,fun c1=>?_⟩
  ·have c1:=dcT c1
   rw[if_pos (.inl (by omega))]
   exact leR_bad
  have c1:=dcF c1
  refine⟨⟨by decide,by omega⟩,fun c2=>?_,fun c2=>?_⟩
  ·have c2:(q.extract 0 4).toList≠magic.toList:=fun h=>by
    have e:((q.extract 0 4).toList==magic.toList)=true:=beq_iff_eq.2 h
    have c2:(!((q.extract 0 4).toList==magic.toList))=true:=c2
    rw[e] at c2
    cases c2
   rw[if_pos (.inr c2)]
   exact leR_bad
  have c2:(q.extract 0 4).toList=magic.toList:=by
   have c2:(!((q.extract 0 4).toList==magic.toList))=false:=c2
   simpa using c2
  rw[if_neg (show ¬ (q.size<4\/(q.extract 0 4).toList≠magic.toList) from fun h=>by
   rcases h with h |h
   ·omega
   ·exact h c2)]
  obtain⟨h1,h2,h3,h4⟩:=readD_rng (q.extract 4 q.size,false)
  have key:=read_tree _ h1 h2 h3 h4
  clear h1 h2 h3 h4
  generalize endS (readD (q.extract 4 q.size,false))=out at *
  unfold readD rwD at key
  dsimp only at key
  refine⟨⟨by decide,by omega⟩,?_,?_,key⟩
  ·have:=uptoD_rng (most:=16) (by decide) (hsD (zB (zB (zC 20 (zC 20 (zB (q.extract 4 q.size,false)).2).2).2).2).2).2
   exact⟨this.1,this.2,by show ((0:Nat):Int)<=_;omega⟩
  ·generalize hX:(zO pmD [] _ _)=X
   have:=uptoD_rng (most:=200) (by decide) (zB X.2).2
   exact⟨this.1,this.2,by show ((0:Nat):Int)<=_;omega⟩)
theorem T_rReplay(s:ByteArray):zU (P:=P) [c_rRead.gc,c_rRun.gc] (zI []) Tryz.f32 (jM 0 [.val .str] (s,())) =
 Tree.cond ((jB s).2.2 != 0) (.leaf (.tup [.agg [.int .i64 0,.int .i64 0,.int .i64 0,.int .i64 0,.int .i64 0,.nils,.nils,.int .i64 0,.nils,.int .i64 0],.int .i64 0,.int .i64 (jB s).2.2])) (.need (sOk (jB s).1) (.leaf (.tup [.agg [.int .i64 (runS (jB s).1 (jB s).2.1).1.1,.int .i64 (runS (jB s).1 (jB s).2.1).1.2.1,.int .i64 (runS (jB s).1 (jB s).2.1).1.2.2.1,.int .i64 (runS (jB s).1 (jB s).2.1).1.2.2.2.1,.int .i64 (runS (jB s).1 (jB s).2.1).1.2.2.2.2.1,.sl (Ty.pair tI (Ty.pair tI (Ty.pair tI tI))) (runS (jB s).1 (jB s).2.1).1.2.2.2.2.2.1.1,.sl (Ty.sl tI) (runS (jB s).1 (jB s).2.1).1.2.2.2.2.2.1.2.1,.int .i64 (runS (jB s).1 (jB s).2.1).1.2.2.2.2.2.1.2.2,.sl (Ty.pair tI (Ty.pair tI (Ty.pair tI Ty.bool))) (runS (jB s).1 (jB s).2.1).1.2.2.2.2.2.2.1,.int .i64 (runS (jB s).1 (jB s).2.1).1.2.2.2.2.2.2.2],.int .i64 (runS (jB s).1 (jB s).2.1).2.1,.int .i64 (runS (jB s).1 (jB s).2.1).2.2]))):=by kernel_rfl
def c_rReplay:PC P:=PC.of (α:=ByteArray×Unit) 32 [.val .str] (fun x=>x) (fun x=>x) (fun _=>rfl)
 (fun _=>none)
 (fun x=>resN (repS x.1)) (by kernel_rfl) (by
  rintro⟨s,⟨⟩⟩ hp
  refine fn_le hm (by kernel_rfl) (by kernel_rfl) (T_rReplay s) trivial (by kernel_rfl) ?_
  try dsimp only at hp
  try dsimp only
  unfold repS
  refine⟨fun c1=>?_,fun c1=>⟨?_,?_⟩⟩
  ·rw[if_pos (bneT c1)]
   exact leN_bad _
  ·exact (chkS_site (readS_sOk s (bneF c1))).sOk
  ·rw[if_neg (fun k=>k (bneF c1))]
   exact leN_good _)
end
end Go.MB
