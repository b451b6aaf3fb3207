/- Runs of entries, of the program alone. -/
import Derived.Test.YtfhomgggbhjglaaGreatMuAa
namespace Go.MB
open Go Go.Sx Go.Proofs
set_option linter.unusedVariables false
set_option linter.unusedSimpArgs false
noncomputable section
def jG:zX->List zP->Int->zX×Int×Int
 |s,[],_=>(s,-1,0)
 |s,e::r,i=>if (doG s e).2≠0 then (s,i,(doG s e).2) else jG (doG s e).1 r (i+1)
def runS(s:zX)(l:List zP):zX×Int×Int:=if chkS s≠0 then (zSite,0,chkS s) else if l.length>200 then (zSite,0,8) else jG s l 0
abbrev resN(x:zX×Int×Int):SV:=.tup [.agg (siteA x.1),.int .i64 x.2.1,.int .i64 x.2.2]
theorem runG_step{s:zX}{l:List zP}{i:Int}(h0:0<=i) (h:i<l.length):jG s (l.drop i.toNat) i=if (doG s (l.getD i.toNat (0,0,0,0,0,0))).2≠0 then (s,i,(doG s (l.getD i.toNat (0,0,0,0,0,0))).2) else jG (doG s (l.getD i.toNat (0,0,0,0,0,0))).1 (l.drop (i+1).toNat) (i+1):=by
 rw[zS (0,0,0,0,0,0) h0 h,jG]
theorem runG_ok:∀(l:List zP)(s:zX)(i:Int),chkS s=0->chkS (jG s l i).1=0
 | [],s,i,h=>h
 |e::r,s,i,h=>by
  rw[jG]
  split
  ·exact h
  ·rename_i c
   exact runG_ok r _ _ (do_ok h (Prod.ext rfl (Decidable.not_not.1 c))).1
theorem runG_end:∀(l:List zP)(s:zX)(i:Int),(jG s l i).2.2=0->(jG s l i).2.1 = -1
 | [],s,i,h=>rfl
 |e::r,s,i,h=>by
  rw[jG] at h ⊢
  split at h
  ·rename_i c;exact absurd h c
  ·rename_i c
   rw[if_neg c]
   exact runG_end r _ _ h
theorem leN_bad(n:Int):LeS (SV.tup [.agg [.int .i64 0,.int .i64 0,.int .i64 0,.int .i64 0,.int .i64 0,.nils,.nils,.int .i64 0,.nils,.int .i64 0],.int .i64 0,.int .i64 n]) (resN (zSite,0,n)):=⟨⟨rfl,rfl,rfl,rfl,rfl,rfl,rfl,rfl,rfl,rfl,trivial⟩,rfl,rfl,trivial⟩
theorem leN_good(x:zX×Int×Int):LeS (resN x) (resN x):=⟨⟨rfl,rfl,rfl,rfl,rfl,rfl,rfl,rfl,rfl,rfl,trivial⟩,rfl,rfl,trivial⟩
def L_run0:Lay:={ slots:=[(2,.ptr 3045 0),(4,.ptr 5045 0),(24,.val (.sl (.pair tI (.pair tI (.pair tI tV))))),(25,.val tI),(26,.val tI)],boxes:=[(3045,[.val tI,.val tI,.val tI,.val tI,.val tI,.val (.sl (.pair tI tV)),.val (.sl tIs),.val tI,.val (.sl (.pair tI (.pair tI (.pair tI .bool)))),.val tI]),(5045,[.val tI,.val tI,.val tI,.val tI,.val tI,.val (.sl (.pair tI tV)),.val (.sl tIs),.val tI,.val (.sl (.pair tI (.pair tI (.pair tI .bool)))),.val tI])] }
def L_run0_0:Lay:={ slots:=[(4,.ptr 5045 0),(5,.val tI),(6,.val tI)],boxes:=[(5045,[.val tI,.val tI,.val tI,.val tI,.val tI,.val (.sl (.pair tI tV)),.val (.sl tIs),.val tI,.val (.sl (.pair tI (.pair tI (.pair tI .bool)))),.val tI])] }
def L_run0_1:Lay:={ slots:=[(2,.ptr 3045 0),(4,.ptr 5045 0)],boxes:=[(3045,[.val tI,.val tI,.val tI,.val tI,.val tI,.val (.sl (.pair tI tV)),.val (.sl tIs),.val tI,.val (.sl (.pair tI (.pair tI (.pair tI .bool)))),.val tI]),(5045,[.val tI,.val tI,.val tI,.val tI,.val tI,.val (.sl (.pair tI tV)),.val (.sl tIs),.val tI,.val (.sl (.pair tI (.pair tI (.pair tI .bool)))),.val tI])] }
def X_run0:Exit->St->Option Lay
 |.ret,_=>some L_run0_0
 |.exit 0,_=>some L_run0_1
 |_,_=>none
abbrev C_run0:Code:=zQ (zJ Tryz.f23) 0
abbrev AeE1:Type:=Unit×Unit×List (Int×(Int×(Int×V)))×Int×Int×Int×Int×Int×Int×Int×List (Int×V)×List (List Int)×Int×List (Int×(Int×(Int×Bool)))×Int×Int×Int×Int×Int×Int×List (Int×V)×List (List Int)×Int×List (Int×(Int×(Int×Bool)))×Int×Unit
theorem B_run0(l:List (Int×(Int×(Int×V))))(n i g j m o p:Int)(b:List (Int×V))(d:List (List Int))(f:Int)(a:List (Int×(Int×(Int×Bool))))(q E F G H I:Int)(J:List (Int×V))(K:List (List Int))(L:Int)(M:List (Int×(Int×(Int×Bool))))(N:Int):zG (P:=P) [c_doX.gc] (zI []) [] 45 noU (zN C_run0) L_run0 X_run0 (α:=AeE1) (fun x=>x) (fun x=>x) ((),(),l,n,i,g,j,m,o,p,b,d,f,a,q,E,F,G,H,I,J,K,L,M,N,()) =
 Tree.cond (decide (i<n)) (.need (0<=i/\i<(l.length:Int)) (.need (sOk (g,j,m,o,p,(b,d,f),a,q)/\zE (b,d,f)=0/\a.length<=900) (.cond ((doG (g,j,m,o,p,(b,d,f),a,q) (l.getD i.toNat (0,0,0,0,0,0))).2 != 0) (.leaf (Sum.inr (Exit.ret,Lay.st L_run0_0 noU ((),i,(doG (g,j,m,o,p,(b,d,f),a,q) (l.getD i.toNat (0,0,0,0,0,0))).2,g,j,m,o,p,b,d,f,a,q,())))) (.leaf (Sum.inl ((),(),l,n,IntKind.i64.wrap (i+1),(doG (g,j,m,o,p,(b,d,f),a,q) (l.getD i.toNat (0,0,0,0,0,0))).1.1,(doG (g,j,m,o,p,(b,d,f),a,q) (l.getD i.toNat (0,0,0,0,0,0))).1.2.1,(doG (g,j,m,o,p,(b,d,f),a,q) (l.getD i.toNat (0,0,0,0,0,0))).1.2.2.1,(doG (g,j,m,o,p,(b,d,f),a,q) (l.getD i.toNat (0,0,0,0,0,0))).1.2.2.2.1,(doG (g,j,m,o,p,(b,d,f),a,q) (l.getD i.toNat (0,0,0,0,0,0))).1.2.2.2.2.1,(doG (g,j,m,o,p,(b,d,f),a,q) (l.getD i.toNat (0,0,0,0,0,0))).1.2.2.2.2.2.1.1,(doG (g,j,m,o,p,(b,d,f),a,q) (l.getD i.toNat (0,0,0,0,0,0))).1.2.2.2.2.2.1.2.1,(doG (g,j,m,o,p,(b,d,f),a,q) (l.getD i.toNat (0,0,0,0,0,0))).1.2.2.2.2.2.1.2.2,(doG (g,j,m,o,p,(b,d,f),a,q) (l.getD i.toNat (0,0,0,0,0,0))).1.2.2.2.2.2.2.1,(doG (g,j,m,o,p,(b,d,f),a,q) (l.getD i.toNat (0,0,0,0,0,0))).1.2.2.2.2.2.2.2,E,F,G,H,I,J,K,L,M,N,())))))) (.leaf (Sum.inr (Exit.exit 0,Lay.st L_run0_1 noU ((),(),g,j,m,o,p,b,d,f,a,q,E,F,G,H,I,J,K,L,M,N,())))):=by kernel_rfl
def inv_run0:AeE1->Prop:=fun(_,_,l,n,i,g,j,m,o,p,b,d,f,a,q,_)=>chkS (g,j,m,o,p,(b,d,f),a,q)=0/\0<=i/\i<=n/\n=l.length/\l.length<=200
def O_run0:AeE1->Tree (Exit×St):=fun(_,_,l,_,i,g,j,m,o,p,b,d,f,a,q,E,F,G,H,I,J,K,L,M,N,_)=>.cond ((jG (g,j,m,o,p,(b,d,f),a,q) (l.drop i.toNat) i).2.2 != 0) (.leaf (.ret,L_run0_0.st noU ((),((jG (g,j,m,o,p,(b,d,f),a,q) (l.drop i.toNat) i).2.1),((jG (g,j,m,o,p,(b,d,f),a,q) (l.drop i.toNat) i).2.2),((jG (g,j,m,o,p,(b,d,f),a,q) (l.drop i.toNat) i).1.1),((jG (g,j,m,o,p,(b,d,f),a,q) (l.drop i.toNat) i).1.2.1),((jG (g,j,m,o,p,(b,d,f),a,q) (l.drop i.toNat) i).1.2.2.1),((jG (g,j,m,o,p,(b,d,f),a,q) (l.drop i.toNat) i).1.2.2.2.1),((jG (g,j,m,o,p,(b,d,f),a,q) (l.drop i.toNat) i).1.2.2.2.2.1),((jG (g,j,m,o,p,(b,d,f),a,q) (l.drop i.toNat) i).1.2.2.2.2.2.1.1),((jG (g,j,m,o,p,(b,d,f),a,q) (l.drop i.toNat) i).1.2.2.2.2.2.1.2.1),((jG (g,j,m,o,p,(b,d,f),a,q) (l.drop i.toNat) i).1.2.2.2.2.2.1.2.2),((jG (g,j,m,o,p,(b,d,f),a,q) (l.drop i.toNat) i).1.2.2.2.2.2.2.1),((jG (g,j,m,o,p,(b,d,f),a,q) (l.drop i.toNat) i).1.2.2.2.2.2.2.2),()))) (.leaf (.exit 0,L_run0_1.st noU ((),(),((jG (g,j,m,o,p,(b,d,f),a,q) (l.drop i.toNat) i).1.1),((jG (g,j,m,o,p,(b,d,f),a,q) (l.drop i.toNat) i).1.2.1),((jG (g,j,m,o,p,(b,d,f),a,q) (l.drop i.toNat) i).1.2.2.1),((jG (g,j,m,o,p,(b,d,f),a,q) (l.drop i.toNat) i).1.2.2.2.1),((jG (g,j,m,o,p,(b,d,f),a,q) (l.drop i.toNat) i).1.2.2.2.2.1),((jG (g,j,m,o,p,(b,d,f),a,q) (l.drop i.toNat) i).1.2.2.2.2.2.1.1),((jG (g,j,m,o,p,(b,d,f),a,q) (l.drop i.toNat) i).1.2.2.2.2.2.1.2.1),((jG (g,j,m,o,p,(b,d,f),a,q) (l.drop i.toNat) i).1.2.2.2.2.2.1.2.2),((jG (g,j,m,o,p,(b,d,f),a,q) (l.drop i.toNat) i).1.2.2.2.2.2.2.1),((jG (g,j,m,o,p,(b,d,f),a,q) (l.drop i.toNat) i).1.2.2.2.2.2.2.2),E,F,G,H,I,J,K,L,M,N,())))
def R_run0:jA:=zY 45 L_run0 (fun x=>x) inv_run0 O_run0
theorem K_run0:zL P [] 45 none noU C_run0 R_run0:=by
 refine zM hm (cx:=[c_doX.gc]) [] (xl:=X_run0) (α:=AeE1) (fun x=>x) (fun(_,_,_,n,i,_)=>(n - i).toNat) (fun _=>rfl) (by kernel_rfl) (by kernel_rfl) ?_ (by kernel_rfl) trivial ?_
 ·intro e S L' h
  unfold X_run0 at h
  split at h<;>cases h<;>kernel_rfl
 ·rintro⟨⟨⟩,⟨⟩,l,n,i,g,j,m,o,p,b,d,f,a,q,E,F,G,H,I,J,K,L,M,N,⟨⟩⟩ hinv Q hQ
  refine zF (B_run0 l n i g j m o p b d f a q E F G H I J K L M N) ?_
  obtain⟨hc,h0,h1,rfl,h2⟩:=hinv
  have hv:=chkS_site hc
  have hl9:a.length<=900:=by have:=hv.l4;dsimp only at this;omega
  unfold O_run0 at hQ
  dsimp only at hQ
  rw[jK (n:=i+1) (by omega) (by omega)]
  refine⟨fun c1=>?_,fun c1=>?_⟩
  ·have c1:=dcT c1
   have hm:((l.length:Int) - (i+1)).toNat<((l.length:Int) - i).toNat:=by omega
   rw[runG_step h0 c1] at hQ
   refine⟨⟨h0,c1⟩,⟨⟨hv.sOk,(chkS_all hc).1.hou,hl9⟩,fun c2=>?_,fun c2=>?_⟩⟩
   ·rw[if_pos (bneT c2)] at hQ
    exact hQ.1 c2
   ·rw[if_neg (fun k=>k (bneF c2))] at hQ
    exact⟨⟨⟨(do_ok hc (Prod.ext rfl (bneF c2))).1,by omega,by omega,rfl,h2⟩,hm⟩,hQ⟩
  ·have c1:=dcF c1
   rw[zR c1,jG] at hQ
   exact hQ.2 rfl
theorem T_Run(t u v w y:Int)(z:List (Int×V))(A:List (List Int))(B:Int)(C:List (Int×(Int×(Int×Bool))))(D:Int)(l:List (Int×(Int×(Int×V)))):zU (P:=P) [c_Check.gc,c_CopyR.gc,c_doX.gc] (zI [(0,R_run0)]) Tryz.f23 (jM 0 [.agg (.pair tI (.pair tI (.pair tI (.pair tI (.pair tI (.pair (.pair (.sl (.pair tI tV)) (.pair (.sl tIs) tI)) (.pair (.sl (.pair tI (.pair tI (.pair tI .bool)))) tI))))))),.val (.sl (.pair tI (.pair tI (.pair tI tV))))] ((t,(u,(v,(w,(y,((z,(A,B)),(C,D))))))),l,())) =
 Tree.need (sOk (t,u,v,w,y,(z,A,B),C,D)) (.cond (chkS (t,u,v,w,y,(z,A,B),C,D) != 0) (.leaf (.tup [.agg [.int .i64 0,.int .i64 0,.int .i64 0,.int .i64 0,.int .i64 0,.nils,.nils,.int .i64 0,.nils,.int .i64 0],.int .i64 0,.int .i64 (chkS (t,u,v,w,y,(z,A,B),C,D))])) (.cond (decide ((l.length:Int)>200)) (.leaf (.tup [.agg [.int .i64 0,.int .i64 0,.int .i64 0,.int .i64 0,.int .i64 0,.nils,.nils,.int .i64 0,.nils,.int .i64 0],.int .i64 0,.int .i64 8])) (.need (sOk (t,u,v,w,y,(z,A,B),C,D)) (.need (inv_run0 ((),(),l,(l.length:Int),0,t,u,v,w,y,z,A,B,C,D,0,0,0,0,0,[],[],0,[],0,())) (.cond ((jG (t,u,v,w,y,(z,A,B),C,D) (List.drop (Int.toNat 0) l) 0).2.2 != 0) (.leaf (.tup [.agg [.int .i64 (jG (t,u,v,w,y,(z,A,B),C,D) (List.drop (Int.toNat 0) l) 0).1.1,.int .i64 (jG (t,u,v,w,y,(z,A,B),C,D) (List.drop (Int.toNat 0) l) 0).1.2.1,.int .i64 (jG (t,u,v,w,y,(z,A,B),C,D) (List.drop (Int.toNat 0) l) 0).1.2.2.1,.int .i64 (jG (t,u,v,w,y,(z,A,B),C,D) (List.drop (Int.toNat 0) l) 0).1.2.2.2.1,.int .i64 (jG (t,u,v,w,y,(z,A,B),C,D) (List.drop (Int.toNat 0) l) 0).1.2.2.2.2.1,.sl (Ty.pair tI tV) (jG (t,u,v,w,y,(z,A,B),C,D) (List.drop (Int.toNat 0) l) 0).1.2.2.2.2.2.1.1,.sl (Ty.sl tI) (jG (t,u,v,w,y,(z,A,B),C,D) (List.drop (Int.toNat 0) l) 0).1.2.2.2.2.2.1.2.1,.int .i64 (jG (t,u,v,w,y,(z,A,B),C,D) (List.drop (Int.toNat 0) l) 0).1.2.2.2.2.2.1.2.2,.sl (Ty.pair tI (Ty.pair tI (Ty.pair tI Ty.bool))) (jG (t,u,v,w,y,(z,A,B),C,D) (List.drop (Int.toNat 0) l) 0).1.2.2.2.2.2.2.1,.int .i64 (jG (t,u,v,w,y,(z,A,B),C,D) (List.drop (Int.toNat 0) l) 0).1.2.2.2.2.2.2.2],.int .i64 (jG (t,u,v,w,y,(z,A,B),C,D) (List.drop (Int.toNat 0) l) 0).2.1,.int .i64 (jG (t,u,v,w,y,(z,A,B),C,D) (List.drop (Int.toNat 0) l) 0).2.2])) (.leaf (.tup [.agg [.int .i64 (jG (t,u,v,w,y,(z,A,B),C,D) (List.drop (Int.toNat 0) l) 0).1.1,.int .i64 (jG (t,u,v,w,y,(z,A,B),C,D) (List.drop (Int.toNat 0) l) 0).1.2.1,.int .i64 (jG (t,u,v,w,y,(z,A,B),C,D) (List.drop (Int.toNat 0) l) 0).1.2.2.1,.int .i64 (jG (t,u,v,w,y,(z,A,B),C,D) (List.drop (Int.toNat 0) l) 0).1.2.2.2.1,.int .i64 (jG (t,u,v,w,y,(z,A,B),C,D) (List.drop (Int.toNat 0) l) 0).1.2.2.2.2.1,.sl (Ty.pair tI tV) (jG (t,u,v,w,y,(z,A,B),C,D) (List.drop (Int.toNat 0) l) 0).1.2.2.2.2.2.1.1,.sl (Ty.sl tI) (jG (t,u,v,w,y,(z,A,B),C,D) (List.drop (Int.toNat 0) l) 0).1.2.2.2.2.2.1.2.1,.int .i64 (jG (t,u,v,w,y,(z,A,B),C,D) (List.drop (Int.toNat 0) l) 0).1.2.2.2.2.2.1.2.2,.sl (Ty.pair tI (Ty.pair tI (Ty.pair tI Ty.bool))) (jG (t,u,v,w,y,(z,A,B),C,D) (List.drop (Int.toNat 0) l) 0).1.2.2.2.2.2.2.1,.int .i64 (jG (t,u,v,w,y,(z,A,B),C,D) (List.drop (Int.toNat 0) l) 0).1.2.2.2.2.2.2.2],.int .i64 (-1:Int),.int .i64 0]))))))):=by kernel_rfl
def c_Run:PC P:=PC.of (α:=(Int×(Int×(Int×(Int×(Int×((List (Int×V)×(List (List Int)×Int))×(List (Int×(Int×(Int×Bool)))×Int)))))))×List (Int×(Int×(Int×V)))×Unit) 23 [.agg (.pair tI (.pair tI (.pair tI (.pair tI (.pair tI (.pair (.pair (.sl (.pair tI tV)) (.pair (.sl tIs) tI)) (.pair (.sl (.pair tI (.pair tI (.pair tI .bool)))) tI))))))),.val (.sl (.pair tI (.pair tI (.pair tI tV))))] (fun x=>x) (fun x=>x) (fun _=>rfl)
 (fun x=>some (sOk x.1))
 (fun x=>resN (runS x.1 x.2.1)) (by kernel_rfl) (by
  rintro⟨⟨t,⟨u,⟨v,⟨w,⟨y,⟨⟨z,⟨A,B⟩⟩,⟨C,D⟩⟩⟩⟩⟩⟩⟩,l,⟨⟩⟩ hp
  refine fn_le hm (by kernel_rfl) (by kernel_rfl) (T_Run t u v w y z A B C D l) ⟨K_run0,trivial⟩ (by kernel_rfl) ?_
  try dsimp only at hp
  try dsimp only
  have hs:sOk (t,u,v,w,y,(z,A,B),C,D):=hp
  show Tree.holds (fun x=>LeS x (resN (runS (t,u,v,w,y,(z,A,B),C,D) l))) _
  refine⟨hs,⟨fun c1=>?_,fun c1=>⟨fun c2=>?_,fun c2=>⟨hs,⟨⟨bneF c1,by decide,by omega,rfl,by have:=dcF c2;omega⟩,⟨fun c3=>?_,fun c3=>?_⟩⟩⟩⟩⟩⟩
  ·have e:runS (t,u,v,w,y,(z,A,B),C,D) l=(zSite,0,chkS (t,u,v,w,y,(z,A,B),C,D)):=if_pos (bneT c1)
   rw[e];exact leN_bad _
  all_goals have d1:¬ chkS (t,u,v,w,y,(z,A,B),C,D)≠0:=fun k=>k (bneF c1)
  ·have c2:=dcT c2
   have e:runS (t,u,v,w,y,(z,A,B),C,D) l=(zSite,0,8):=by
    unfold runS
    rw[if_neg d1,if_pos (by omega)]
   rw[e];exact leN_bad _
  all_goals have c2:=dcF c2
  all_goals have e:runS (t,u,v,w,y,(z,A,B),C,D) l=jG (t,u,v,w,y,(z,A,B),C,D) l 0:=by unfold runS;rw[if_neg d1,if_neg (by omega)]
  ·rw[e];exact leN_good _
  ·have c3:(jG (t,u,v,w,y,(z,A,B),C,D) l 0).2.2=0:=bneF c3
   have k:=runG_end l (t,u,v,w,y,(z,A,B),C,D) 0 c3
   have e2:jG (t,u,v,w,y,(z,A,B),C,D) l 0=((jG (t,u,v,w,y,(z,A,B),C,D) l 0).1,-1,0):=Prod.ext rfl (Prod.ext k c3)
   rw[e,e2];exact leN_good ((jG (t,u,v,w,y,(z,A,B),C,D) l 0).1,-1,0))
end
end Go.MB
