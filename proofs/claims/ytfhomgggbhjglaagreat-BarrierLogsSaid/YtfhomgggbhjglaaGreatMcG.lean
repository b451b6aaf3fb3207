/- Runs of entries, of the reference. -/
import Derived.Test.YtfhomgggbhjglaaGreatMcF
import Derived.Test.YtfhomgggbhjglaaGreatMeE
namespace Go.MB
open Go Go.Sx Go.Proofs
set_option linter.unusedVariables false
set_option linter.unusedSimpArgs false
noncomputable section
def L_rrun0:Lay:={ slots:=[(1,.val (.sl (.pair tI (.pair tI (.pair tI tV))))),(4,.ptr 5046 0),(8,.ptr 9046 0),(9,.val tI)],boxes:=[(5046,[.val tI,.val tI,.val tI,.val tI,.val tI,.val (.sl (.pair tI tV)),.val (.sl tIs),.val tI,.val (.sl (.pair tI (.pair tI (.pair tI .bool)))),.val tI]),(9046,[.val tI,.val tI,.val tI,.val tI,.val tI,.val (.sl (.pair tI tV)),.val (.sl tIs),.val tI,.val (.sl (.pair tI (.pair tI (.pair tI .bool)))),.val tI])] }
def L_rrun0_0:Lay:={ slots:=[(4,.ptr 5046 0),(5,.val tI),(6,.val tI)],boxes:=[(5046,[.val tI,.val tI,.val tI,.val tI,.val tI,.val (.sl (.pair tI tV)),.val (.sl tIs),.val tI,.val (.sl (.pair tI (.pair tI (.pair tI .bool)))),.val tI])] }
def L_rrun0_1:Lay:={ slots:=[(4,.ptr 5046 0),(8,.ptr 9046 0)],boxes:=[(5046,[.val tI,.val tI,.val tI,.val tI,.val tI,.val (.sl (.pair tI tV)),.val (.sl tIs),.val tI,.val (.sl (.pair tI (.pair tI (.pair tI .bool)))),.val tI]),(9046,[.val tI,.val tI,.val tI,.val tI,.val tI,.val (.sl (.pair tI tV)),.val (.sl tIs),.val tI,.val (.sl (.pair tI (.pair tI (.pair tI .bool)))),.val tI])] }
def X_rrun0:Exit->St->Option Lay
 |.ret,_=>some L_rrun0_0
 |.exit 0,_=>some L_rrun0_1
 |_,_=>none
abbrev C_rrun0:Code:=zQ (zJ Tryz.f24) 0
abbrev AcG1:Type:=List (Int×(Int×(Int×V)))×Unit×Unit×Int×Int×Int×Int×Int×Int×List (Int×V)×List (List Int)×Int×List (Int×(Int×(Int×Bool)))×Int×Int×Int×Int×Int×Int×List (Int×V)×List (List Int)×Int×List (Int×(Int×(Int×Bool)))×Int×Unit
theorem B_rrun0(l:List (Int×(Int×(Int×V))))(i B C D E F:Int)(G:List (Int×V))(H:List (List Int))(I:Int)(J:List (Int×(Int×(Int×Bool))))(K b c d f g:Int)(j:List (Int×V))(m:List (List Int))(o:Int)(a:List (Int×(Int×(Int×Bool))))(p:Int):zG (P:=P) [c_rDo.gc] (zI []) [] 46 noU (zN C_rrun0) L_rrun0 X_rrun0 (α:=AcG1) (fun x=>x) (fun x=>x) (l,(),(),i,B,C,D,E,F,G,H,I,J,K,b,c,d,f,g,j,m,o,a,p,()) =
 Tree.cond (decide (i<(l.length:Int))) (.need (0<=i/\i<(l.length:Int)) (.need (sOk (b,c,d,f,g,(j,m,o),a,p)/\a.length<=900) (.cond ((dS (b,c,d,f,g,(j,m,o),a,p) (l.getD i.toNat (0,0,0,0,0,0))).2 != 0) (.leaf (Sum.inr (Exit.ret,Lay.st L_rrun0_0 noU ((),i,(dS (b,c,d,f,g,(j,m,o),a,p) (l.getD i.toNat (0,0,0,0,0,0))).2,b,c,d,f,g,j,m,o,a,p,())))) (.leaf (Sum.inl (l,(),(),IntKind.i64.wrap (i+1),B,C,D,E,F,G,H,I,J,K,(dS (b,c,d,f,g,(j,m,o),a,p) (l.getD i.toNat (0,0,0,0,0,0))).1.1,(dS (b,c,d,f,g,(j,m,o),a,p) (l.getD i.toNat (0,0,0,0,0,0))).1.2.1,(dS (b,c,d,f,g,(j,m,o),a,p) (l.getD i.toNat (0,0,0,0,0,0))).1.2.2.1,(dS (b,c,d,f,g,(j,m,o),a,p) (l.getD i.toNat (0,0,0,0,0,0))).1.2.2.2.1,(dS (b,c,d,f,g,(j,m,o),a,p) (l.getD i.toNat (0,0,0,0,0,0))).1.2.2.2.2.1,(dS (b,c,d,f,g,(j,m,o),a,p) (l.getD i.toNat (0,0,0,0,0,0))).1.2.2.2.2.2.1.1,(dS (b,c,d,f,g,(j,m,o),a,p) (l.getD i.toNat (0,0,0,0,0,0))).1.2.2.2.2.2.1.2.1,(dS (b,c,d,f,g,(j,m,o),a,p) (l.getD i.toNat (0,0,0,0,0,0))).1.2.2.2.2.2.1.2.2,(dS (b,c,d,f,g,(j,m,o),a,p) (l.getD i.toNat (0,0,0,0,0,0))).1.2.2.2.2.2.2.1,(dS (b,c,d,f,g,(j,m,o),a,p) (l.getD i.toNat (0,0,0,0,0,0))).1.2.2.2.2.2.2.2,())))))) (.leaf (Sum.inr (Exit.exit 0,Lay.st L_rrun0_1 noU ((),(),B,C,D,E,F,G,H,I,J,K,b,c,d,f,g,j,m,o,a,p,())))):=by kernel_rfl
def inv_rrun0:AcG1->Prop:=fun(l,_,_,i,_,_,_,_,_,_,_,_,_,_,b,c,d,f,g,j,m,o,a,p,_)=>chkS (b,c,d,f,g,(j,m,o),a,p)=0/\0<=i/\i<=l.length/\l.length<=200
def O_rrun0:AcG1->Tree (Exit×St):=fun(l,_,_,i,B,C,D,E,F,G,H,I,J,K,b,c,d,f,g,j,m,o,a,p,_)=>.cond ((jG (b,c,d,f,g,(j,m,o),a,p) (l.drop i.toNat) i).2.2 != 0) (.leaf (.ret,L_rrun0_0.st noU ((),((jG (b,c,d,f,g,(j,m,o),a,p) (l.drop i.toNat) i).2.1),((jG (b,c,d,f,g,(j,m,o),a,p) (l.drop i.toNat) i).2.2),((jG (b,c,d,f,g,(j,m,o),a,p) (l.drop i.toNat) i).1.1),((jG (b,c,d,f,g,(j,m,o),a,p) (l.drop i.toNat) i).1.2.1),((jG (b,c,d,f,g,(j,m,o),a,p) (l.drop i.toNat) i).1.2.2.1),((jG (b,c,d,f,g,(j,m,o),a,p) (l.drop i.toNat) i).1.2.2.2.1),((jG (b,c,d,f,g,(j,m,o),a,p) (l.drop i.toNat) i).1.2.2.2.2.1),((jG (b,c,d,f,g,(j,m,o),a,p) (l.drop i.toNat) i).1.2.2.2.2.2.1.1),((jG (b,c,d,f,g,(j,m,o),a,p) (l.drop i.toNat) i).1.2.2.2.2.2.1.2.1),((jG (b,c,d,f,g,(j,m,o),a,p) (l.drop i.toNat) i).1.2.2.2.2.2.1.2.2),((jG (b,c,d,f,g,(j,m,o),a,p) (l.drop i.toNat) i).1.2.2.2.2.2.2.1),((jG (b,c,d,f,g,(j,m,o),a,p) (l.drop i.toNat) i).1.2.2.2.2.2.2.2),()))) (.leaf (.exit 0,L_rrun0_1.st noU ((),(),B,C,D,E,F,G,H,I,J,K,((jG (b,c,d,f,g,(j,m,o),a,p) (l.drop i.toNat) i).1.1),((jG (b,c,d,f,g,(j,m,o),a,p) (l.drop i.toNat) i).1.2.1),((jG (b,c,d,f,g,(j,m,o),a,p) (l.drop i.toNat) i).1.2.2.1),((jG (b,c,d,f,g,(j,m,o),a,p) (l.drop i.toNat) i).1.2.2.2.1),((jG (b,c,d,f,g,(j,m,o),a,p) (l.drop i.toNat) i).1.2.2.2.2.1),((jG (b,c,d,f,g,(j,m,o),a,p) (l.drop i.toNat) i).1.2.2.2.2.2.1.1),((jG (b,c,d,f,g,(j,m,o),a,p) (l.drop i.toNat) i).1.2.2.2.2.2.1.2.1),((jG (b,c,d,f,g,(j,m,o),a,p) (l.drop i.toNat) i).1.2.2.2.2.2.1.2.2),((jG (b,c,d,f,g,(j,m,o),a,p) (l.drop i.toNat) i).1.2.2.2.2.2.2.1),((jG (b,c,d,f,g,(j,m,o),a,p) (l.drop i.toNat) i).1.2.2.2.2.2.2.2),())))
def R_rrun0:jA:=zY 46 L_rrun0 (fun x=>x) inv_rrun0 O_rrun0
theorem K_rrun0:zL P [] 46 none noU C_rrun0 R_rrun0:=by
 refine zM hm (cx:=[c_rDo.gc]) [] (xl:=X_rrun0) (α:=AcG1) (fun x=>x) (fun(l,_,_,i,_)=>(l.length - i).toNat) (fun _=>rfl) (by kernel_rfl) (by kernel_rfl) ?_ (by kernel_rfl) trivial ?_
 ·intro e S L' h
  unfold X_rrun0 at h
  split at h<;>cases h<;>kernel_rfl
 ·rintro⟨l,⟨⟩,⟨⟩,i,B,C,D,E,F,G,H,I,J,K,b,c,d,f,g,j,m,o,a,p,⟨⟩⟩ hinv Q hQ
  refine zF (B_rrun0 l i B C D E F G H I J K b c d f g j m o a p) ?_
  obtain⟨hc,h0,h1,h2⟩:=hinv
  have hv:=chkS_site hc
  have hl9:a.length<=900:=by have:=hv.l4;dsimp only at this;omega
  unfold O_rrun0 at hQ
  dsimp only at hQ
  rw[jK (n:=i+1) (by omega) (by omega)]
  refine⟨fun c1=>?_,fun c1=>?_⟩
  ·have c1:=dcT c1
   have hm:((l.length:Int) - (i+1)).toNat<((l.length:Int) - i).toNat:=by omega
   rw[runG_step h0 c1] at hQ
   rw[dS_ok hc]
   refine⟨⟨h0,c1⟩,⟨⟨hv.sOk,hl9⟩,fun c2=>?_,fun c2=>?_⟩⟩
   ·rw[if_pos (bneT c2)] at hQ
    exact hQ.1 c2
   ·rw[if_neg (fun k=>k (bneF c2))] at hQ
    exact⟨⟨⟨(do_ok hc (Prod.ext rfl (bneF c2))).1,by omega,by omega,h2⟩,hm⟩,hQ⟩
  ·have c1:=dcF c1
   rw[zR c1,jG] at hQ
   exact hQ.2 rfl
theorem T_rRun(q r s t u:Int)(v:List (Int×V))(w:List (List Int))(y:Int)(z:List (Int×(Int×(Int×Bool))))(A:Int)(l:List (Int×(Int×(Int×V)))):zU (P:=P) [c_rCheck.gc,c_rCopy.gc,c_rDo.gc] (zI [(0,R_rrun0)]) Tryz.f24 (jM 0 [.agg (.pair tI (.pair tI (.pair tI (.pair tI (.pair tI (.pair (.pair (.sl (.pair tI tV)) (.pair (.sl tIs) tI)) (.pair (.sl (.pair tI (.pair tI (.pair tI .bool)))) tI))))))),.val (.sl (.pair tI (.pair tI (.pair tI tV))))] ((q,(r,(s,(t,(u,((v,(w,y)),(z,A))))))),l,())) =
 Tree.need (sOk (q,r,s,t,u,(v,w,y),z,A)) (.cond (chkS (q,r,s,t,u,(v,w,y),z,A) != 0) (.leaf (.tup [.agg [.int .i64 0,.int .i64 0,.int .i64 0,.int .i64 0,.int .i64 0,.nils,.nils,.int .i64 0,.nils,.int .i64 0],.int .i64 0,.int .i64 (chkS (q,r,s,t,u,(v,w,y),z,A))])) (.cond (decide ((l.length:Int)>200)) (.leaf (.tup [.agg [.int .i64 0,.int .i64 0,.int .i64 0,.int .i64 0,.int .i64 0,.nils,.nils,.int .i64 0,.nils,.int .i64 0],.int .i64 0,.int .i64 8])) (.need (sOk (q,r,s,t,u,(v,w,y),z,A)) (.need (inv_rrun0 (l,(),(),0,0,0,0,0,0,[],[],0,[],0,q,r,s,t,u,v,w,y,z,A,())) (.cond ((jG (q,r,s,t,u,(v,w,y),z,A) (List.drop (Int.toNat 0) l) 0).2.2 != 0) (.leaf (.tup [.agg [.int .i64 (jG (q,r,s,t,u,(v,w,y),z,A) (List.drop (Int.toNat 0) l) 0).1.1,.int .i64 (jG (q,r,s,t,u,(v,w,y),z,A) (List.drop (Int.toNat 0) l) 0).1.2.1,.int .i64 (jG (q,r,s,t,u,(v,w,y),z,A) (List.drop (Int.toNat 0) l) 0).1.2.2.1,.int .i64 (jG (q,r,s,t,u,(v,w,y),z,A) (List.drop (Int.toNat 0) l) 0).1.2.2.2.1,.int .i64 (jG (q,r,s,t,u,(v,w,y),z,A) (List.drop (Int.toNat 0) l) 0).1.2.2.2.2.1,.sl (Ty.pair tI tV) (jG (q,r,s,t,u,(v,w,y),z,A) (List.drop (Int.toNat 0) l) 0).1.2.2.2.2.2.1.1,.sl (Ty.sl tI) (jG (q,r,s,t,u,(v,w,y),z,A) (List.drop (Int.toNat 0) l) 0).1.2.2.2.2.2.1.2.1,.int .i64 (jG (q,r,s,t,u,(v,w,y),z,A) (List.drop (Int.toNat 0) l) 0).1.2.2.2.2.2.1.2.2,.sl (Ty.pair tI (Ty.pair tI (Ty.pair tI Ty.bool))) (jG (q,r,s,t,u,(v,w,y),z,A) (List.drop (Int.toNat 0) l) 0).1.2.2.2.2.2.2.1,.int .i64 (jG (q,r,s,t,u,(v,w,y),z,A) (List.drop (Int.toNat 0) l) 0).1.2.2.2.2.2.2.2],.int .i64 (jG (q,r,s,t,u,(v,w,y),z,A) (List.drop (Int.toNat 0) l) 0).2.1,.int .i64 (jG (q,r,s,t,u,(v,w,y),z,A) (List.drop (Int.toNat 0) l) 0).2.2])) (.leaf (.tup [.agg [.int .i64 (jG (q,r,s,t,u,(v,w,y),z,A) (List.drop (Int.toNat 0) l) 0).1.1,.int .i64 (jG (q,r,s,t,u,(v,w,y),z,A) (List.drop (Int.toNat 0) l) 0).1.2.1,.int .i64 (jG (q,r,s,t,u,(v,w,y),z,A) (List.drop (Int.toNat 0) l) 0).1.2.2.1,.int .i64 (jG (q,r,s,t,u,(v,w,y),z,A) (List.drop (Int.toNat 0) l) 0).1.2.2.2.1,.int .i64 (jG (q,r,s,t,u,(v,w,y),z,A) (List.drop (Int.toNat 0) l) 0).1.2.2.2.2.1,.sl (Ty.pair tI tV) (jG (q,r,s,t,u,(v,w,y),z,A) (List.drop (Int.toNat 0) l) 0).1.2.2.2.2.2.1.1,.sl (Ty.sl tI) (jG (q,r,s,t,u,(v,w,y),z,A) (List.drop (Int.toNat 0) l) 0).1.2.2.2.2.2.1.2.1,.int .i64 (jG (q,r,s,t,u,(v,w,y),z,A) (List.drop (Int.toNat 0) l) 0).1.2.2.2.2.2.1.2.2,.sl (Ty.pair tI (Ty.pair tI (Ty.pair tI Ty.bool))) (jG (q,r,s,t,u,(v,w,y),z,A) (List.drop (Int.toNat 0) l) 0).1.2.2.2.2.2.2.1,.int .i64 (jG (q,r,s,t,u,(v,w,y),z,A) (List.drop (Int.toNat 0) l) 0).1.2.2.2.2.2.2.2],.int .i64 (-1:Int),.int .i64 0]))))))):=by kernel_rfl
def c_rRun:PC P:=PC.of (α:=(Int×(Int×(Int×(Int×(Int×((List (Int×V)×(List (List Int)×Int))×(List (Int×(Int×(Int×Bool)))×Int)))))))×List (Int×(Int×(Int×V)))×Unit) 24 [.agg (.pair tI (.pair tI (.pair tI (.pair tI (.pair tI (.pair (.pair (.sl (.pair tI tV)) (.pair (.sl tIs) tI)) (.pair (.sl (.pair tI (.pair tI (.pair tI .bool)))) tI))))))),.val (.sl (.pair tI (.pair tI (.pair tI tV))))] (fun x=>x) (fun x=>x) (fun _=>rfl)
 (fun x=>some (sOk x.1))
 (fun x=>resN (runS x.1 x.2.1)) (by kernel_rfl) (by
  rintro⟨⟨q,⟨r,⟨s,⟨t,⟨u,⟨⟨v,⟨w,y⟩⟩,⟨z,A⟩⟩⟩⟩⟩⟩⟩,l,⟨⟩⟩ hp
  refine fn_le hm (by kernel_rfl) (by kernel_rfl) (T_rRun q r s t u v w y z A l) ⟨K_rrun0,trivial⟩ (by kernel_rfl) ?_
  try dsimp only at hp
  try dsimp only
  have hs:sOk (q,r,s,t,u,(v,w,y),z,A):=hp
  show Tree.holds (fun x=>LeS x (resN (runS (q,r,s,t,u,(v,w,y),z,A) l))) _
  refine⟨hs,⟨fun c1=>?_,fun c1=>⟨fun c2=>?_,fun c2=>⟨hs,⟨⟨bneF c1,by decide,by omega,by have:=dcF c2;omega⟩,⟨fun c3=>?_,fun c3=>?_⟩⟩⟩⟩⟩⟩
  ·have e:runS (q,r,s,t,u,(v,w,y),z,A) l=(zSite,0,chkS (q,r,s,t,u,(v,w,y),z,A)):=if_pos (bneT c1)
   rw[e];exact leN_bad _
  all_goals have d1:¬ chkS (q,r,s,t,u,(v,w,y),z,A)≠0:=fun k=>k (bneF c1)
  ·have c2:=dcT c2
   have e:runS (q,r,s,t,u,(v,w,y),z,A) l=(zSite,0,8):=by
    unfold runS
    rw[if_neg d1,if_pos (by omega)]
   rw[e];exact leN_bad _
  all_goals have c2:=dcF c2
  all_goals have e:runS (q,r,s,t,u,(v,w,y),z,A) l=jG (q,r,s,t,u,(v,w,y),z,A) l 0:=by unfold runS;rw[if_neg d1,if_neg (by omega)]
  ·rw[e];exact leN_good _
  ·have c3:(jG (q,r,s,t,u,(v,w,y),z,A) l 0).2.2=0:=bneF c3
   have k:=runG_end l (q,r,s,t,u,(v,w,y),z,A) 0 c3
   have e2:jG (q,r,s,t,u,(v,w,y),z,A) l 0=((jG (q,r,s,t,u,(v,w,y),z,A) l 0).1,-1,0):=Prod.ext rfl (Prod.ext k c3)
   rw[e,e2];exact leN_good ((jG (q,r,s,t,u,(v,w,y),z,A) l 0).1,-1,0))
end
end Go.MB
