/- The law BarrierLogs. -/
import Derived.Test.YtfhomgggbhjglaaGreatMeM
import Derived.Test.YtfhomgggbhjglaaGreatMeI
namespace Go.MB
open Go Go.Sx Go.Proofs
set_option linter.unusedVariables false
set_option linter.unusedSimpArgs false
noncomputable section
def bentS(x:Int):List Int->List Int->List Int
 | [],b=>b
 |a::r,b=>if b.length=0 then b else bentS x r (b.set (a % (b.length:Int)).toNat (bits .xor .u8 (b.getD (a % (b.length:Int)).toNat 0) x))
theorem bentS_nil(x:Int):∀l:List Int,bentS x l []=[]
 | []=>rfl
 |a::r=>if_pos rfl
attribute [local irreducible] zA rwS
theorem readS_site(s:ByteArray):sOk (jB s).1:=by
 unfold jB endS
 generalize readR _=x
 split
 ·exact zSite_ok
 ·rename_i c
  exact (chkS_site (Decidable.not_not.1 fun k=>c (.inr (.inr k)))).sOk
theorem readS_len(s:ByteArray):(jB s).2.1.length<=100000:=by
 have h:∀r:Rd,(readR r).2.1.length<=200:=fun r=>by
  unfold readR
  dsimp only
  exact rwS_len enR 200 _
 have h:=h ((cutP s magic).1,!(cutP s magic).2)
 unfold jB endS
 generalize readR _=x at *
 split
 ·exact Nat.zero_le _
 ·exact Nat.le_trans h (by decide)
theorem repS_site(s:ByteArray):sOk (repS s).1:=by
 unfold repS
 split
 ·exact zSite_ok
 ·exact runS_sOk _ _
theorem logS_size(s:zX)(l:List zP):(logS s l).1.size<=100000:=by
 unfold logS
 split
 ·exact Nat.zero_le _
 ·rename_i c
  split
  ·exact Nat.zero_le _
  ·rename_i c2
   have hc:chkS s=0:=Decidable.not_not.1 c
   have hv:=chkS_site hc
   have hh:=houseE_ok (chkS_all hc).1.hou
   have l1:=elsN_len s.2.2.2.2.2.1.1
   have l2:=envsN_len s.2.2.2.2.2.1.2.1 (fun q hq=>by have:=(hh.ev q hq).2.1;omega)
   have l3:=pmsN_len s.2.2.2.2.2.2.1
   have l4:=ensN_len l
   have k1:=hv.l1
   have k2:=hv.l2
   have k4:=hv.l4
   show (strOfNums _).size<=_
   rw[strOfNums_size,List.length_append,bysN_len]
   unfold numsS
   simp only[List.length_append,List.length_cons,List.length_nil]
   omega
def L_blg0:Lay:={ slots:=[(3,.val tIs),(4,.val (.int .u8)),(5,.val tI),(18,.val .str),(22,.val .str),(24,.row 1099511627781 (.int .u8)),(25,.val tI)] }
def L_blg0_0:Lay:={ slots:=[(4,.val (.int .u8)),(5,.val tI),(18,.val .str),(22,.val .str),(24,.row 1099511627781 (.int .u8))] }
def X_blg0:Exit->St->Option Lay
 |.exit 0,_=>some L_blg0_0
 |_,_=>none
abbrev C_blg0:Code:=zQ (zJ Tryz.f5) 0
abbrev AeN1:Type:=List Int×Int×Int×ByteArray×ByteArray×List Int×Int×Unit
theorem B_blg0(ps:List Int)(xb less:Int)(b d:ByteArray)(bent:List Int)(i:Int):zG (P:=P) [c_Mod.gc] (zI []) [] 222 noU (zN C_blg0) L_blg0 X_blg0 (α:=AeN1) (fun x=>x) (fun x=>x) (ps,xb,less,b,d,bent,i,()) =
 Tree.cond (decide (i<(ps.length:Int))) (.cond (decide ((bent.length:Int)>0)) (.need (0<=i/\i<(ps.length:Int)) (.need (0<(bent.length:Int)/\R64 (bent.length:Int)) (.need (0<=ps.getD i.toNat 0 % (bent.length:Int)/\ps.getD i.toNat 0 % (bent.length:Int)<(bent.length:Int)) (.need (Int.toNat (ps.getD i.toNat 0 % (bent.length:Int))<bent.length) (.need (0<=ps.getD i.toNat 0 % (bent.length:Int)/\ps.getD i.toNat 0 % (bent.length:Int)<(bent.length:Int)) (.need (Int.toNat (ps.getD i.toNat 0 % (bent.length:Int))<bent.length) (.leaf (Sum.inl (ps,xb,less,b,d,List.set bent (Int.toNat (ps.getD i.toNat 0 % (bent.length:Int))) (bits BinOp.xor IntKind.u8 (List.getD bent (Int.toNat (ps.getD i.toNat 0 % (bent.length:Int))) 0) xb),IntKind.i64.wrap (i+1),()))))))))) (.leaf (Sum.inr (Exit.exit 0,Lay.st L_blg0_0 noU (xb,less,b,d,bent,()))))) (.leaf (Sum.inr (Exit.exit 0,Lay.st L_blg0_0 noU (xb,less,b,d,bent,())))):=by kernel_rfl
def inv_blg0:AeN1->Prop:=fun(ps,_,_,_,_,bent,i,_)=>0<=i/\i<=ps.length/\ps.length<=6/\bent.length<=2000000
def O_blg0:AeN1->Tree (Exit×St):=fun(ps,xb,less,b,d,bent,i,_)=>(.leaf (.exit 0,L_blg0_0.st noU (xb,less,b,d,(bentS xb (ps.drop i.toNat) bent),())))
def R_blg0:jA:=zY 222 L_blg0 (fun x=>x) inv_blg0 O_blg0
theorem K_blg0:zL P [] 222 none noU C_blg0 R_blg0:=by
 refine zM hm (cx:=[c_Mod.gc]) [] (xl:=X_blg0) (α:=AeN1) (fun x=>x) (fun(ps,_,_,_,_,_,i,_)=>(ps.length - i).toNat) (fun _=>rfl) (by kernel_rfl) (by kernel_rfl) ?_ (by kernel_rfl) trivial ?_
 ·intro e S L' h
  unfold X_blg0 at h
  split at h<;>cases h<;>kernel_rfl
 ·rintro⟨ps,xb,less,b,d,bent,i,⟨⟩⟩ hinv Q hQ
  refine zF (B_blg0 ps xb less b d bent i) ?_
  obtain⟨h0,h1,h2,h3⟩:=hinv
  rw[jK (n:=i+1) (by omega) (by omega)]
  unfold O_blg0 at hQ
  dsimp only at hQ
  refine⟨fun c1=>⟨fun c2=>?_,fun c2=>?_⟩,fun c1=>?_⟩
  ·have c1:=dcT c1
   have c2:0<(bent.length:Int):=dcT c2
   have hm0:=Int.emod_nonneg (ps.getD i.toNat 0) (show (bent.length:Int)≠0 by omega)
   have hm1:=Int.emod_lt_of_pos (ps.getD i.toNat 0) c2
   rw[zS (0:Int) h0 c1,bentS,if_neg (show ¬ bent.length=0 by omega)] at hQ
   exact⟨⟨h0,c1⟩,⟨c2,by unfold R64;omega⟩,⟨hm0,hm1⟩,by omega,⟨hm0,hm1⟩,by omega,⟨⟨by omega,by omega,h2,by rw[List.length_set];exact h3⟩,by show ((ps.length:Int) - (i+1)).toNat<((ps.length:Int) - i).toNat;omega⟩,hQ⟩
  ·have c2:¬ 0<(bent.length:Int):=dcF c2
   obtain rfl:bent=[]:=List.eq_nil_of_length_eq_zero (by omega)
   rw[bentS_nil] at hQ
   exact hQ
  ·rw[zR (dcF c1),bentS] at hQ
   exact hQ
def L_blg2:Lay:={ slots:=[(26,.row 9 .str),(27,.val tI)] }
def L_blg2_0:Lay:={ slots:=[(12,.val .bool)] }
def L_blg2_1:Lay:={ slots:=[] }
def X_blg2:Exit->St->Option Lay
 |.ret,_=>some L_blg2_0
 |.exit 2,_=>some L_blg2_1
 |_,_=>none
abbrev C_blg2:Code:=zQ (zJ Tryz.f5) 2
abbrev AeN2:Type:=List ByteArray×Int×Unit
theorem B_blg2(logs:List ByteArray)(k:Int):zG (P:=P) [c_Read.gc,c_rRead.gc,c_Replay.gc,c_rReplay.gc,c_rSame.gc,c_SameEntries.gc] (zI []) [] 222 noU (zN C_blg2) L_blg2 X_blg2 (α:=AeN2) (fun x=>x) (fun x=>x) (logs,k,()) =
 Tree.cond (decide (k<(logs.length:Int))) (.need (0<=k/\k<(logs.length:Int)) (.need (Int.toNat k<logs.length) (.need (0<=k/\k<(logs.length:Int)) (.need (Int.toNat k<logs.length) (.need (0<=k/\k<(logs.length:Int)) (.need (Int.toNat k<logs.length) (.need (0<=k/\k<(logs.length:Int)) (.need (Int.toNat k<logs.length) (.need (sOk (jB (logs.getD k.toNat { data:=#[] })).1/\sOk (jB (logs.getD k.toNat { data:=#[] })).1) (.cond (!sameB (jB (logs.getD k.toNat { data:=#[] })).1 (jB (logs.getD k.toNat { data:=#[] })).1) (.leaf (Sum.inr (Exit.ret,Lay.st L_blg2_0 noU (false,())))) (.need (List.length (jB (logs.getD k.toNat { data:=#[] })).2.1<=100000/\List.length (jB (logs.getD k.toNat { data:=#[] })).2.1<=100000) (.cond (!decide ((jB (logs.getD k.toNat { data:=#[] })).2.1=(jB (logs.getD k.toNat { data:=#[] })).2.1)) (.leaf (Sum.inr (Exit.ret,Lay.st L_blg2_0 noU (false,())))) (.cond ((jB (logs.getD k.toNat { data:=#[] })).2.2 != (jB (logs.getD k.toNat { data:=#[] })).2.2) (.leaf (Sum.inr (Exit.ret,Lay.st L_blg2_0 noU (false,())))) (.need (sOk (repS (logs.getD k.toNat { data:=#[] })).1/\sOk (repS (logs.getD k.toNat { data:=#[] })).1) (.cond (!sameB (repS (logs.getD k.toNat { data:=#[] })).1 (repS (logs.getD k.toNat { data:=#[] })).1) (.leaf (Sum.inr (Exit.ret,Lay.st L_blg2_0 noU (false,())))) (.cond ((repS (logs.getD k.toNat { data:=#[] })).2.1 != (repS (logs.getD k.toNat { data:=#[] })).2.1) (.leaf (Sum.inr (Exit.ret,Lay.st L_blg2_0 noU (false,())))) (.cond ((repS (logs.getD k.toNat { data:=#[] })).2.2 != (repS (logs.getD k.toNat { data:=#[] })).2.2) (.leaf (Sum.inr (Exit.ret,Lay.st L_blg2_0 noU (false,())))) (.leaf (Sum.inl (logs,IntKind.i64.wrap (k+1),())))))))))))))))))))) (.leaf (Sum.inr (Exit.exit 2,Lay.st L_blg2_1 noU ()))):=by kernel_rfl
def inv_blg2:AeN2->Prop:=fun(logs,k,_)=>0<=k/\k<=logs.length/\logs.length<=100
def O_blg2:AeN2->Tree (Exit×St):=fun(_,_)=>(.leaf (.exit 2,L_blg2_1.st noU ()))
def R_blg2:jA:=zY 222 L_blg2 (fun x=>x) inv_blg2 O_blg2
theorem K_blg2:zL P [] 222 none noU C_blg2 R_blg2:=by
 refine zM hm (cx:=[c_Read.gc,c_rRead.gc,c_Replay.gc,c_rReplay.gc,c_rSame.gc,c_SameEntries.gc]) [] (xl:=X_blg2) (α:=AeN2) (fun x=>x) (fun(logs,k,_)=>(logs.length - k).toNat) (fun _=>rfl) (by kernel_rfl) (by kernel_rfl) ?_ (by kernel_rfl) trivial ?_
 ·intro e S L' h
  unfold X_blg2 at h
  split at h<;>cases h<;>kernel_rfl
 ·rintro⟨logs,k,⟨⟩⟩ hinv Q hQ
  refine zF (B_blg2 logs k) ?_
  obtain⟨h0,h1,h2⟩:=hinv
  rw[jK (n:=k+1) (by omega) (by omega)]
  unfold O_blg2 at hQ
  dsimp only at hQ
  refine⟨fun c1=>?_,fun c1=>hQ⟩
  have c1:=dcT c1
  have a1:0<=k/\k<(logs.length:Int):=⟨h0,c1⟩
  have a2:k.toNat<logs.length:=by omega
  generalize logs.getD k.toNat _=x
  have s1:=readS_site x
  have s2:=repS_site x
  have s3:=readS_len x
  generalize jB x=r at *
  generalize repS x=t at *
  have e1:∀z:Int,(z != z)=true->False:=fun z h=>bneT h rfl
  have e2:∀z:zX,(!sameB z z)=true->False:=fun z h=>by rw[sameB_iff.2 rfl] at h;cases h
  have e3:∀z:List zP,(!decide (z=z))=true->False:=fun z h=>by rw[decide_eq_true rfl] at h;cases h
  exact⟨a1,a2,a1,a2,a1,a2,a1,a2,⟨s1,s1⟩,fun c=>(e2 _ c).elim,fun _=>⟨⟨s3,s3⟩,fun c=>(e3 _ c).elim,fun _=>⟨fun c=>(e1 _ c).elim,fun _=>⟨⟨s2,s2⟩,fun c=>(e2 _ c).elim,fun _=>⟨fun c=>(e1 _ c).elim,fun _=>⟨fun c=>(e1 _ c).elim,fun _=>⟨⟨⟨by omega,by omega,h2⟩,by show ((logs.length:Int) - (k+1)).toNat<((logs.length:Int) - k).toNat;omega⟩,hQ⟩⟩⟩⟩⟩⟩⟩
theorem T_BarrierLogs(o p v w y:Int)(f:List (Int×V))(g:List (List Int))(j:Int)(m:List (Int×(Int×(Int×Bool))))(A:Int)(l:List (Int×(Int×(Int×V))))(nums ps:List Int)(xb less:Int):zU (P:=P) [c_BigSite.gc,c_awakeX.gc,c_NewRing.gc,c_SiteOf.gc,c_EntriesOf.gc,c_Log.gc,c_rLog.gc,c_Mod.gc] (zI [(0,R_blg0),(2,R_blg2)]) Tryz.f5 (jM 0 [.agg (.pair tI (.pair tI (.pair tI (.pair tI (.pair tI (.pair (.pair (.sl (.pair tI tV)) (.pair (.sl tIs) tI)) (.pair (.sl (.pair tI (.pair tI (.pair tI .bool)))) tI))))))),.val (.sl (.pair tI (.pair tI (.pair tI tV)))),.val tIs,.val tIs,.val (.int .u8),.val tI] ((o,(p,(v,(w,(y,((f,(g,j)),(m,A))))))),l,nums,ps,xb,less,())) =
 Tree.cond (bigH (f,g,j)||decide ((m.length:Int)>20)) (.leaf (.bool true)) (.cond (decide ((l.length:Int)>210)) (.leaf (.bool true)) (.cond (decide ((ps.length:Int)>6)) (.leaf (.bool true)) (.need (pr_SiteOf ((),nums,(0:Int),())) (.need (pr_EntriesOf ((),(zK ((),nums,(0:Int),())).1,(6:Int),nums,(zK ((),nums,(0:Int),())).2,())) (.need (sOk (o,p,v,w,y,(f,g,j),m,A)) (.need (sOk (o,p,v,w,y,(f,g,j),m,A)) (.need (sOk (zK ((),nums,(0:Int),())).1) (.need (sOk (zK ((),nums,(0:Int),())).1) (.cond (!ByteArray.toList (logS (o,p,v,w,y,(f,g,j),m,A) l).1==ByteArray.toList (logS (o,p,v,w,y,(f,g,j),m,A) l).1) (.leaf (.bool false)) (.cond ((logS (o,p,v,w,y,(f,g,j),m,A) l).2 != (logS (o,p,v,w,y,(f,g,j),m,A) l).2) (.leaf (.bool false)) (.cond (!ByteArray.toList (logS (zK ((),nums,(0:Int),())).1 (jJ ((),(zK ((),nums,(0:Int),())).1,(6:Int),nums,(zK ((),nums,(0:Int),())).2,())).1).1==ByteArray.toList (logS (zK ((),nums,(0:Int),())).1 (jJ ((),(zK ((),nums,(0:Int),())).1,(6:Int),nums,(zK ((),nums,(0:Int),())).2,())).1).1) (.leaf (.bool false)) (.cond ((logS (zK ((),nums,(0:Int),())).1 (jJ ((),(zK ((),nums,(0:Int),())).1,(6:Int),nums,(zK ((),nums,(0:Int),())).2,())).1).2 != (logS (zK ((),nums,(0:Int),())).1 (jJ ((),(zK ((),nums,(0:Int),())).1,(6:Int),nums,(zK ((),nums,(0:Int),())).2,())).1).2) (.leaf (.bool false)) (.need (ByteArray.size (logS (zK ((),nums,(0:Int),())).1 (jJ ((),(zK ((),nums,(0:Int),())).1,(6:Int),nums,(zK ((),nums,(0:Int),())).2,())).1).1<=1048576) (.need (inv_blg0 (ps,xb,less,(logS (o,p,v,w,y,(f,g,j),m,A) l).1,(logS (zK ((),nums,0,())).1 (jJ ((),(zK ((),nums,0,())).1,6,nums,(zK ((),nums,0,())).2,())).1).1,bytesL (logS (zK ((),nums,0,())).1 (jJ ((),(zK ((),nums,0,())).1,6,nums,(zK ((),nums,0,())).2,())).1).1,0,())) (.need ((↑(ByteArray.size (logS (zK ((),nums,(0:Int),())).1 (jJ ((),(zK ((),nums,(0:Int),())).1,(6:Int),nums,(zK ((),nums,(0:Int),())).2,())).1).1):Int)+(↑(ByteArray.size (strOfNums [xb])):Int)<=9223372036854775807) (.need (0<IntKind.i64.wrap ((↑(ByteArray.size (logS (zK ((),nums,(0:Int),())).1 (jJ ((),(zK ((),nums,(0:Int),())).1,(6:Int),nums,(zK ((),nums,(0:Int),())).2,())).1).1):Int)+1)/\R64 (IntKind.i64.wrap ((↑(ByteArray.size (logS (zK ((),nums,(0:Int),())).1 (jJ ((),(zK ((),nums,(0:Int),())).1,(6:Int),nums,(zK ((),nums,(0:Int),())).2,())).1).1):Int)+1))) (.need (0<=IntKind.i64.wrap ((↑(ByteArray.size (logS (zK ((),nums,(0:Int),())).1 (jJ ((),(zK ((),nums,(0:Int),())).1,(6:Int),nums,(zK ((),nums,(0:Int),())).2,())).1).1):Int) - less % IntKind.i64.wrap ((↑(ByteArray.size (logS (zK ((),nums,(0:Int),())).1 (jJ ((),(zK ((),nums,(0:Int),())).1,(6:Int),nums,(zK ((),nums,(0:Int),())).2,())).1).1):Int)+1))/\IntKind.i64.wrap ((↑(ByteArray.size (logS (zK ((),nums,(0:Int),())).1 (jJ ((),(zK ((),nums,(0:Int),())).1,(6:Int),nums,(zK ((),nums,(0:Int),())).2,())).1).1):Int) - less % IntKind.i64.wrap ((↑(ByteArray.size (logS (zK ((),nums,(0:Int),())).1 (jJ ((),(zK ((),nums,(0:Int),())).1,(6:Int),nums,(zK ((),nums,(0:Int),())).2,())).1).1):Int)+1))<=(↑(ByteArray.size (logS (zK ((),nums,(0:Int),())).1 (jJ ((),(zK ((),nums,(0:Int),())).1,(6:Int),nums,(zK ((),nums,(0:Int),())).2,())).1).1):Int)) (.need (inv_blg2 ([(logS (o,p,v,w,y,(f,g,j),m,A) l).1,(logS (zK ((),nums,0,())).1 (jJ ((),(zK ((),nums,0,())).1,6,nums,(zK ((),nums,0,())).2,())).1).1,strOfNums (bentS xb (List.drop (Int.toNat 0) ps) (bytesL (logS (zK ((),nums,0,())).1 (jJ ((),(zK ((),nums,0,())).1,6,nums,(zK ((),nums,0,())).2,())).1).1)),(logS (zK ((),nums,0,())).1 (jJ ((),(zK ((),nums,0,())).1,6,nums,(zK ((),nums,0,())).2,())).1).1++strOfNums [xb],ByteArray.extract (logS (zK ((),nums,0,())).1 (jJ ((),(zK ((),nums,0,())).1,6,nums,(zK ((),nums,0,())).2,())).1).1 0 (Int.toNat (IntKind.i64.wrap ((↑(ByteArray.size (logS (zK ((),nums,0,())).1 (jJ ((),(zK ((),nums,0,())).1,6,nums,(zK ((),nums,0,())).2,())).1).1):Int) - less % IntKind.i64.wrap ((↑(ByteArray.size (logS (zK ((),nums,0,())).1 (jJ ((),(zK ((),nums,0,())).1,6,nums,(zK ((),nums,0,())).2,())).1).1):Int)+1))))],0,())) (.leaf (.bool true)))))))))))))))))))):=by kernel_rfl
def c_BarrierLogs:PC P:=PC.of (α:=(Int×(Int×(Int×(Int×(Int×((List (Int×V)×(List (List Int)×Int))×(List (Int×(Int×(Int×Bool)))×Int)))))))×List (Int×(Int×(Int×V)))×List Int×List Int×Int×Int×Unit) 5 [.agg (.pair tI (.pair tI (.pair tI (.pair tI (.pair tI (.pair (.pair (.sl (.pair tI tV)) (.pair (.sl tIs) tI)) (.pair (.sl (.pair tI (.pair tI (.pair tI .bool)))) tI))))))),.val (.sl (.pair tI (.pair tI (.pair tI tV)))),.val tIs,.val tIs,.val (.int .u8),.val tI] (fun x=>x) (fun x=>x) (fun _=>rfl)
 (fun _=>none)
 (fun x=>.bool true) (by kernel_rfl) (by
  rintro⟨⟨o,⟨p,⟨v,⟨w,⟨y,⟨⟨f,⟨g,j⟩⟩,⟨m,A⟩⟩⟩⟩⟩⟩⟩,l,nums,ps,xb,less,⟨⟩⟩ hp
  refine fn_of hm (by kernel_rfl) (by kernel_rfl) (T_BarrierLogs o p v w y f g j m A l nums ps xb less) ⟨K_blg0,K_blg2,trivial⟩ ?_
  try dsimp only at hp
  try dsimp only
  refine⟨fun _=>rfl,fun c1=>⟨fun _=>rfl,fun c2=>⟨fun _=>rfl,fun c3=>?_⟩⟩⟩
  have c3:=dcF c3
  have c2:=dcF c2
  have hpr:pr_SiteOf ((),nums,0,()):=⟨by decide,by decide⟩
  have hZ:=S_SiteOf _ hpr
  refine⟨hpr,?_⟩
  generalize zK ((),nums,0,())=sk at *
  obtain⟨z0,z1,z2⟩:SiteV sk.1/\0<=sk.2/\sk.2<=0+1000:=hZ
  have hpe:pr_EntriesOf ((),sk.1,6,nums,sk.2,()):=⟨z0,by decide,by decide,z1,by omega⟩
  refine⟨hpe,?_⟩
  generalize jJ ((),sk.1,6,nums,sk.2,())=ek at *
  have hs:sOk (o,p,v,w,y,(f,g,j),m,A):=by
   have k:=Bool.or_eq_false_iff.1 (show (bigH (f,g,j)||decide ((m.length:Int)>20))=false from c1)
   have k2:=dcF k.2
   exact⟨bigH_ok k.1,by dsimp only;omega⟩
  have d1:=logS_size sk.1 ek.1
  have hz:=z0.sOk
  generalize logS (o,p,v,w,y,(f,g,j),m,A) l=u at *
  generalize logS sk.1 ek.1=d at *
  have e1:∀z:Int,(z != z)=true->False:=fun z h=>bneT h rfl
  have e4:∀z:ByteArray,(!(z.toList==z.toList))=true->False:=fun z h=>by rw[beq_self_eq_true] at h;cases h
  have m0:=Int.emod_nonneg less (show (d.1.size:Int)+1≠0 by omega)
  have m1:=Int.emod_lt_of_pos less (show 0<(d.1.size:Int)+1 by omega)
  rw[jK (n:=(d.1.size:Int)+1) (by omega) (by omega)]
  rw[jK (n:=(d.1.size:Int) - less % ((d.1.size:Int)+1)) (by omega) (by omega)]
  refine⟨hs,hs,hz,hz,fun c=>(e4 _ c).elim,fun _=>⟨fun c=>(e1 _ c).elim,fun _=>⟨fun c=>(e4 _ c).elim,fun _=>⟨fun c=>(e1 _ c).elim,fun _=>⟨by omega,⟨by decide,by omega,by omega,by rw[bytesL_len];omega⟩,?_,⟨by omega,by unfold R64;omega⟩,⟨by omega,by omega⟩,⟨by decide,by show (0:Int)<=((5:Nat):Int);decide,by show 5<=100;decide⟩,rfl⟩⟩⟩⟩⟩
  rw[strOfNums_size,List.length_singleton]
  omega)
end
end Go.MB
