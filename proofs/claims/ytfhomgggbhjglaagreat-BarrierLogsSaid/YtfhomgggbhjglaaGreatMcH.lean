/- The kit's lists of entries. -/
import Derived.Test.YtfhomgggbhjglaaGreatMcF
namespace Go.MB
open Go Go.Sx Go.Proofs
set_option linter.unusedVariables false
set_option linter.unusedSimpArgs false
noncomputable section
theorem ent_eq(x y:zP):(x.1==y.1&&(x.2.1==y.2.1&&(x.2.2.1==y.2.2.1&&(x.2.2.2.1==y.2.2.2.1&&(x.2.2.2.2.1==y.2.2.2.2.1&&(x.2.2.2.2.2==y.2.2.2.2.2&&true))))))=decide (x=y):=by
 obtain⟨a,b,c,d,e,f⟩:=x
 obtain⟨a',b',c',d',e',f'⟩:=y
 rw[Bool.eq_iff_iff]
 simp
def L_sent0:Lay:={ slots:=[(0,.val (.sl (.pair tI (.pair tI (.pair tI tV))))),(1,.val (.sl (.pair tI (.pair tI (.pair tI tV))))),(5,.val tI)] }
def L_sent0_0:Lay:={ slots:=[(4,.val .bool)] }
def L_sent0_1:Lay:={ slots:=[] }
def X_sent0:Exit->St->Option Lay
 |.ret,_=>some L_sent0_0
 |.exit 0,_=>some L_sent0_1
 |_,_=>none
abbrev C_sent0:Code:=zQ (zJ Tryz.f25) 0
abbrev AcH3:Type:=List (Int×(Int×(Int×V)))×List (Int×(Int×(Int×V)))×Int×Unit
theorem B_sent0(a b:List (Int×(Int×(Int×V))))(i:Int):zG (P:=P) [] (zI []) [] 26 noU (zN C_sent0) L_sent0 X_sent0 (α:=AcH3) (fun x=>x) (fun x=>x) (a,b,i,()) =
 Tree.cond (decide (i<(a.length:Int))) (.need (0<=i/\i<(a.length:Int)) (.need (0<=i/\i<(b.length:Int)) (.cond (!((a.getD i.toNat (0,0,0,0,0,0)).1==(b.getD i.toNat (0,0,0,0,0,0)).1&&((a.getD i.toNat (0,0,0,0,0,0)).2.1==(b.getD i.toNat (0,0,0,0,0,0)).2.1&&((a.getD i.toNat (0,0,0,0,0,0)).2.2.1==(b.getD i.toNat (0,0,0,0,0,0)).2.2.1&&((a.getD i.toNat (0,0,0,0,0,0)).2.2.2.1==(b.getD i.toNat (0,0,0,0,0,0)).2.2.2.1&&((a.getD i.toNat (0,0,0,0,0,0)).2.2.2.2.1==(b.getD i.toNat (0,0,0,0,0,0)).2.2.2.2.1&&((a.getD i.toNat (0,0,0,0,0,0)).2.2.2.2.2==(b.getD i.toNat (0,0,0,0,0,0)).2.2.2.2.2&&true))))))) (.leaf (Sum.inr (Exit.ret,Lay.st L_sent0_0 noU (false,())))) (.leaf (Sum.inl (a,b,IntKind.i64.wrap (i+1),())))))) (.leaf (Sum.inr (Exit.exit 0,Lay.st L_sent0_1 noU ()))):=by kernel_rfl
def inv_sent0:AcH3->Prop:=fun(a,b,i,_)=>0<=i/\i<=a.length/\a.length=b.length/\a.length<=100000
def O_sent0:AcH3->Tree (Exit×St):=fun(a,b,i,_)=>.cond (decide (a.drop i.toNat=b.drop i.toNat)) (.leaf (.exit 0,L_sent0_1.st noU ())) (.leaf (.ret,L_sent0_0.st noU ((false),())))
def R_sent0:jA:=zY 26 L_sent0 (fun x=>x) inv_sent0 O_sent0
theorem K_sent0:zL P [] 26 none noU C_sent0 R_sent0:=by
 refine zM hm (cx:=[]) [] (xl:=X_sent0) (α:=AcH3) (fun x=>x) (fun(a,_,i,_)=>(a.length - i).toNat) (fun _=>rfl) (by kernel_rfl) (by kernel_rfl) ?_ (by kernel_rfl) trivial ?_
 ·intro e S L' h
  unfold X_sent0 at h
  split at h<;>cases h<;>kernel_rfl
 ·rintro⟨a,b,i,⟨⟩⟩ hinv Q hQ
  refine zF (B_sent0 a b i) ?_
  obtain⟨h0,h1,h2,h3⟩:=hinv
  unfold O_sent0 at hQ
  dsimp only at hQ
  rw[jK (n:=i+1) (by omega) (by omega),ent_eq]
  refine⟨fun c1=>?_,fun c1=>?_⟩
  ·have c1:=dcT c1
   have hm:((a.length:Int) - (i+1)).toNat<((a.length:Int) - i).toNat:=by omega
   rw[eqd_step (0,0,0,0,0,0) h0 c1 h2] at hQ
   refine⟨⟨h0,c1⟩,⟨⟨h0,by omega⟩,⟨fun c2=>?_,fun c2=>?_⟩⟩⟩
   ·rw[notT c2,Bool.false_and] at hQ
    exact hQ.2 rfl
   ·rw[notF c2,Bool.true_and] at hQ
    exact⟨⟨⟨by omega,by omega,h2,h3⟩,hm⟩,hQ⟩
  ·have c1:=dcF c1
   rw[eqd_end c1 h2] at hQ
   exact hQ.1 rfl
theorem T_SameEntries(a b:List (Int×(Int×(Int×V)))):zU (P:=P) [] (zI [(0,R_sent0)]) Tryz.f25 (jM 0 [.val (.sl (.pair tI (.pair tI (.pair tI tV)))),.val (.sl (.pair tI (.pair tI (.pair tI tV))))] (a,b,())) =
 Tree.cond ((a.length:Int) != (b.length:Int)) (.leaf (.bool false)) (.need (inv_sent0 (a,b,0,())) (.cond (decide (List.drop (Int.toNat 0) a=List.drop (Int.toNat 0) b)) (.leaf (.bool true)) (.leaf (.bool false)))):=by kernel_rfl
def c_SameEntries:PC P:=PC.of (α:=List (Int×(Int×(Int×V)))×List (Int×(Int×(Int×V)))×Unit) 25 [.val (.sl (.pair tI (.pair tI (.pair tI tV)))),.val (.sl (.pair tI (.pair tI (.pair tI tV))))] (fun x=>x) (fun x=>x) (fun _=>rfl)
 (fun x=>some (x.1.length<=100000/\x.2.1.length<=100000))
 (fun x=>.bool (decide (x.1=x.2.1))) (by kernel_rfl) (by
  rintro⟨a,b,⟨⟩⟩ hp
  refine fn_of hm (by kernel_rfl) (by kernel_rfl) (T_SameEntries a b) ⟨K_sent0,trivial⟩ ?_
  try dsimp only at hp
  try dsimp only
  obtain⟨h1,h2⟩:a.length<=100000/\b.length<=100000:=hp
  refine⟨fun c=>?_,fun c=>?_⟩
  ·have d:¬ a=b:=fun h=>bneT c (by rw[h])
   exact congrArg SV.bool (decide_eq_false d).symm
  ·have d:(a.length:Int)=b.length:=bneF c
   refine⟨⟨by omega,by omega,by omega,h1⟩,fun c2=>congrArg SV.bool ?_,fun c2=>congrArg SV.bool ?_⟩
   ·exact c2.symm
   ·exact c2.symm)
theorem T_BigSite(E F G H I:Int)(A:List (Int×V))(B:List (List Int))(C:Int)(D:List (Int×(Int×(Int×Bool))))(J:Int):zU (P:=P) [c_BigHouse.gc] (zI []) Tryz.f10 (jM 0 [.agg (.pair tI (.pair tI (.pair tI (.pair tI (.pair tI (.pair (.pair (.sl (.pair tI tV)) (.pair (.sl tIs) tI)) (.pair (.sl (.pair tI (.pair tI (.pair tI .bool)))) tI)))))))] ((E,(F,(G,(H,(I,((A,(B,C)),(D,J))))))),())) =
 Tree.cond (bigH (A,B,C)) (.leaf (.bool true)) (.leaf (.bool (decide ((D.length:Int)>20)))):=by kernel_rfl
def c_BigSite:PC P:=PC.of (α:=(Int×(Int×(Int×(Int×(Int×((List (Int×V)×(List (List Int)×Int))×(List (Int×(Int×(Int×Bool)))×Int)))))))×Unit) 10 [.agg (.pair tI (.pair tI (.pair tI (.pair tI (.pair tI (.pair (.pair (.sl (.pair tI tV)) (.pair (.sl tIs) tI)) (.pair (.sl (.pair tI (.pair tI (.pair tI .bool)))) tI)))))))] (fun x=>x) (fun x=>x) (fun _=>rfl)
 (fun _=>none)
 (fun x=>.bool (bigH x.1.2.2.2.2.2.1||decide ((x.1.2.2.2.2.2.2.1.length:Int)>20))) (by kernel_rfl) (by
  rintro⟨⟨E,⟨F,⟨G,⟨H,⟨I,⟨⟨A,⟨B,C⟩⟩,⟨D,J⟩⟩⟩⟩⟩⟩⟩,⟨⟩⟩ hp
  refine fn_of hm (by kernel_rfl) (by kernel_rfl) (T_BigSite E F G H I A B C D J) trivial ?_
  try dsimp only at hp
  try dsimp only
  refine⟨fun c=>?_,fun c=>?_⟩
  ·exact congrArg SV.bool (by rw[c,Bool.true_or])
  ·exact congrArg SV.bool (by rw[c,Bool.false_or]))
def L_ens0:Lay:={ slots:=[(0,.ptr 1 0),(2,.val tI),(4,.ptr 5037 0),(7,.row 30 (.pair tI (.pair tI (.pair tI tV))))],boxes:=[(1,[.val tIs,.val tI]),(5037,[.val tI,.val tI,.val tI,.val tI,.val tI,.val (.sl (.pair tI tV)),.val (.sl tIs),.val tI,.val (.sl (.pair tI (.pair tI (.pair tI .bool)))),.val tI])] }
def L_ens0_0:Lay:={ slots:=[(7,.row 30 (.pair tI (.pair tI (.pair tI tV))))],boxes:=[(1,[.val tIs,.val tI])] }
def X_ens0:Exit->St->Option Lay
 |.exit 0,_=>some L_ens0_0
 |_,_=>none
abbrev C_ens0:Code:=zQ (zJ Tryz.f21) 0
abbrev AcH1:Type:=Unit×Int×Unit×List (Int×(Int×(Int×V)))×List Int×Int×Int×Int×Int×Int×Int×List (Int×V)×List (List Int)×Int×List (Int×(Int×(Int×Bool)))×Int×Unit
theorem B_ens0(n:Int)(o:List (Int×(Int×(Int×V))))(l:List Int)(k j m p q r:Int)(u:List (Int×V))(v:List (List Int))(w:Int)(g:List (Int×(Int×(Int×Bool))))(z:Int):zG (P:=P) [c_EntryOf.gc,c_rDo.gc,c_RNext.gc] (zI []) [] 37 (usd noU ([1])) (zN C_ens0) L_ens0 X_ens0 (α:=AcH1) (fun x=>x) (fun x=>x) ((),n,(),o,l,k,j,m,p,q,r,u,v,w,g,z,()) =
 Tree.cond (decide ((o.length:Int)<n)) (.need (pr_EntryOf ((),(j,m,p,q,r,(u,v,w),g,z),(12:Int),l,k,())) (.need (sOk (j,m,p,q,r,(u,v,w),g,z)/\g.length<=900) (.cond ((dS (j,m,p,q,r,(u,v,w),g,z) (V_EntryOf ((),(j,m,p,q,r,(u,v,w),g,z),(12:Int),l,k,())).1).2==0) (.need ((o.length+List.length [(V_EntryOf ((),(j,m,p,q,r,(u,v,w),g,z),(12:Int),l,k,())).1])*48<=140737488355328) (.leaf (Sum.inl ((),n,(),o++[(V_EntryOf ((),(j,m,p,q,r,(u,v,w),g,z),(12:Int),l,k,())).1],l,(V_EntryOf ((),(j,m,p,q,r,(u,v,w),g,z),(12:Int),l,k,())).2,(dS (j,m,p,q,r,(u,v,w),g,z) (V_EntryOf ((),(j,m,p,q,r,(u,v,w),g,z),(12:Int),l,k,())).1).1.1,(dS (j,m,p,q,r,(u,v,w),g,z) (V_EntryOf ((),(j,m,p,q,r,(u,v,w),g,z),(12:Int),l,k,())).1).1.2.1,(dS (j,m,p,q,r,(u,v,w),g,z) (V_EntryOf ((),(j,m,p,q,r,(u,v,w),g,z),(12:Int),l,k,())).1).1.2.2.1,(dS (j,m,p,q,r,(u,v,w),g,z) (V_EntryOf ((),(j,m,p,q,r,(u,v,w),g,z),(12:Int),l,k,())).1).1.2.2.2.1,(dS (j,m,p,q,r,(u,v,w),g,z) (V_EntryOf ((),(j,m,p,q,r,(u,v,w),g,z),(12:Int),l,k,())).1).1.2.2.2.2.1,(dS (j,m,p,q,r,(u,v,w),g,z) (V_EntryOf ((),(j,m,p,q,r,(u,v,w),g,z),(12:Int),l,k,())).1).1.2.2.2.2.2.1.1,(dS (j,m,p,q,r,(u,v,w),g,z) (V_EntryOf ((),(j,m,p,q,r,(u,v,w),g,z),(12:Int),l,k,())).1).1.2.2.2.2.2.1.2.1,(dS (j,m,p,q,r,(u,v,w),g,z) (V_EntryOf ((),(j,m,p,q,r,(u,v,w),g,z),(12:Int),l,k,())).1).1.2.2.2.2.2.1.2.2,(dS (j,m,p,q,r,(u,v,w),g,z) (V_EntryOf ((),(j,m,p,q,r,(u,v,w),g,z),(12:Int),l,k,())).1).1.2.2.2.2.2.2.1,(dS (j,m,p,q,r,(u,v,w),g,z) (V_EntryOf ((),(j,m,p,q,r,(u,v,w),g,z),(12:Int),l,k,())).1).1.2.2.2.2.2.2.2,())))) (.need (0<=(V_EntryOf ((),(j,m,p,q,r,(u,v,w),g,z),(12:Int),l,k,())).2/\(V_EntryOf ((),(j,m,p,q,r,(u,v,w),g,z),(12:Int),l,k,())).2<1099511627776/\(0:Int)<12) (.cond (decide (rnS l (V_EntryOf ((),(j,m,p,q,r,(u,v,w),g,z),(12:Int),l,k,())).2 (12:Int)>0)) (.leaf (Sum.inl ((),IntKind.i64.wrap (n - 1),(),o,l,(V_EntryOf ((),(j,m,p,q,r,(u,v,w),g,z),(12:Int),l,k,())).2+1,j,m,p,q,r,u,v,w,g,z,()))) (.need ((o.length+List.length [(V_EntryOf ((),(j,m,p,q,r,(u,v,w),g,z),(12:Int),l,k,())).1])*48<=140737488355328) (.leaf (Sum.inl ((),n,(),o++[(V_EntryOf ((),(j,m,p,q,r,(u,v,w),g,z),(12:Int),l,k,())).1],l,(V_EntryOf ((),(j,m,p,q,r,(u,v,w),g,z),(12:Int),l,k,())).2+1,j,m,p,q,r,u,v,w,g,z,()))))))))) (.leaf (Sum.inr (Exit.exit 0,Lay.st L_ens0_0 (usd noU [1]) (o,l,k,())))):=by kernel_rfl
def inv_ens0:AcH1->Prop:=fun(_,n,_,o,_,k,j,m,p,q,r,u,v,w,g,z,_)=>SiteV (j,m,p,q,r,(u,v,w),g,z)/\(o.length:Int)<=n/\0<=k/\n<=100/\k+200*(n - o.length)<=900000000/\∀e∈o,okN e
def Z_ens0:AcH1->List zP×List Int×Int×Unit->Prop:=fun(_,n,_,o,l,k,_) (o',l',k',_)=>l'=l/\k<=k'/\k'<=k+200*(n - (o.length:Int))/\(o'.length:Int)<=n/\∀e∈o',okN e
theorem E_ens0:∃o:AcH1->List zP×List Int×Int×Unit,zL P [] 37 none (usd noU ([1])) C_ens0 (zY 37 L_ens0 (fun x=>x) inv_ens0 fun a=>.leaf (.exit 0,L_ens0_0.st (usd noU ([1])) (o a)))/\∀a,inv_ens0 a->Z_ens0 a (o a):=by
 refine loop_rel1 hm (cx:=[c_EntryOf.gc,c_rDo.gc,c_RNext.gc]) [] (xl:=X_ens0) (α:=AcH1) (β:=List zP×List Int×Int×Unit) (L':=L_ens0_0) (fun x=>x) (fun(_,n,_,o,_)=>(n - o.length).toNat) Z_ens0 (.exit 0) (fun x=>x) (fun _=>rfl) (by kernel_rfl) (by kernel_rfl) ?_ (by kernel_rfl) trivial ?_
 ·intro e S L' h
  unfold X_ens0 at h
  split at h<;>cases h<;>kernel_rfl
 ·rintro⟨⟨⟩,n,⟨⟩,o,l,k,j,m,p,q,r,u,v,w,g,z,⟨⟩⟩ hinv
  refine zF (B_ens0 n o l k j m p q r u v w g z) ?_
  obtain⟨hv,h1,h2,h3,h4,h5⟩:=hinv
  have hpr:pr_EntryOf ((),(j,m,p,q,r,(u,v,w),g,z),12,l,k,())\/¬ (o.length:Int)<n:=by
   by_cases c:(o.length:Int)<n
   ·exact .inl ⟨hv,by decide,by decide,h2,by omega⟩
   ·exact .inr c
  have hl9:g.length<=900:=by have:=hv.l4;dsimp only at this;omega
  refine⟨fun c1=>?_,fun c1=>?_⟩
  ·have c1:=dcT c1
   have hpr:=hpr.resolve_right (fun k=>k c1)
   have hY:=S_EntryOf _ hpr
   have hZ:=And.intro hY.1 hY.2.1
   have hN:=hY.2.2
   clear hY
   refine⟨hpr,⟨⟨hv.sOk,hl9⟩,?_⟩⟩
   have hw:IntKind.i64.wrap (n - 1)=n - 1:=jK (by omega) (by omega)
   rw[dS_ok hv.ok]
   generalize V_EntryOf ((),(j,m,p,q,r,(u,v,w),g,z),12,l,k,())=ek at *
   obtain⟨e,k'⟩:=ek
   obtain⟨z1,z2⟩:k<=k'/\k'<=k+100:=hZ
   have hN:okN e:=hN
   have h6:∀x∈o++[e],okN x:=fun x hx=>by
    rcases List.mem_append.1 hx with hx |hx
    ·exact h5 x hx
    ·rw[List.mem_singleton.1 hx];exact hN
   dsimp only
   have key:=fun t=>do_ok (s:=(j,m,p,q,r,(u,v,w),g,z)) (t:=t) (e:=e) hv.ok
   generalize doG (j,m,p,q,r,(u,v,w),g,z) e=tf at *
   obtain⟨t,f⟩:=tf
   have hl:((o++[e]).length:Int)=o.length+1:=by rw[List.length_append,List.length_singleton];omega
   have sz:(o.length+[e].length)*48<=140737488355328:=by rw[List.length_singleton];omega
   refine⟨fun c2=>⟨sz,?_⟩,fun c2=>⟨⟨by omega,by omega,by decide⟩,⟨fun c3=>?_,fun c3=>⟨sz,?_⟩⟩⟩⟩
   ·obtain rfl:f=0:=eq_of_beq c2
    have gv:=chkS_site (key t rfl).1
    refine⟨⟨⟨gv,by omega,by omega,h3,by omega,h6⟩,by show (n - ((o++[e]).length:Int)).toNat<(n - (o.length:Int)).toNat;omega⟩,?_⟩
    rintro⟨o',l',k2,_⟩ ⟨b1,b2,b3,b4,b5⟩
    exact⟨b1,by omega,by omega,b4,b5⟩
   ·rw[hw]
    refine⟨⟨⟨hv,by omega,by omega,by omega,by omega,h5⟩,by show (n - 1 - (o.length:Int)).toNat<(n - (o.length:Int)).toNat;omega⟩,?_⟩
    rintro⟨o',l',k2,_⟩ ⟨b1,b2,b3,b4,b5⟩
    exact⟨b1,by omega,by omega,by omega,b5⟩
   ·refine⟨⟨⟨hv,by omega,by omega,h3,by omega,h6⟩,by show (n - ((o++[e]).length:Int)).toNat<(n - (o.length:Int)).toNat;omega⟩,?_⟩
    rintro⟨o',l',k2,_⟩ ⟨b1,b2,b3,b4,b5⟩
    exact⟨b1,by omega,by omega,b4,b5⟩
  ·exact⟨_,rfl,rfl,by omega,by omega,h1,h5⟩
def O_ens0:AcH1->List zP×List Int×Int×Unit:=Classical.choose E_ens0
def R_ens0:jA:=zY 37 L_ens0 (fun x=>x) inv_ens0 fun a=>.leaf (.exit 0,L_ens0_0.st (usd noU ([1])) (O_ens0 a))
theorem K_ens0:zL P [] 37 none (usd noU ([1])) C_ens0 R_ens0:=(Classical.choose_spec E_ens0).1
theorem S_ens0:∀a,inv_ens0 a->Z_ens0 a (O_ens0 a):=(Classical.choose_spec E_ens0).2
def L_EntriesOf:Lay:={ slots:=[(0,.ptr 1 0),(1,.agg tSite),(2,.val tI)],boxes:=[(1,[.val tIs,.val tI])] }
def T_EntriesOf_t(j m p q r:Int)(u:List E4)(v:List (List Int))(w:Int)(g:List Pm)(z:Int)(n:Int)(l:List Int)(k:Int):Tree MOut :=
 Tree.need (inv_ens0 ((),n,(),[],l,k,j,m,p,q,r,u,v,w,g,z,())) (.leaf { res:=.sl (Ty.pair tI (Ty.pair tI (Ty.pair tI tV))) (O_ens0 ((),n,(),[],l,k,j,m,p,q,r,u,v,w,g,z,())).1,boxes:=[[.sl tI (O_ens0 ((),n,(),[],l,k,j,m,p,q,r,u,v,w,g,z,())).2.1,.int .i64 (O_ens0 ((),n,(),[],l,k,j,m,p,q,r,u,v,w,g,z,())).2.2.1]] })
theorem T_EntriesOf(j m p q r:Int)(u:List E4)(v:List (List Int))(w:Int)(g:List Pm)(z:Int)(n:Int)(l:List Int)(k:Int):jF (P:=P) [] (zI [(0,R_ens0)]) Tryz.f21 L_EntriesOf false ((),(j,m,p,q,r,(u,v,w),g,z),n,l,k,())=T_EntriesOf_t j m p q r u v w g z n l k:=by kernel_rfl
abbrev AcH2:Type:=Unit×zX×Int×List Int×Int×Unit
def pr_EntriesOf:AcH2->Prop:=fun(_,s,n,_,k,_)=>SiteV s/\0<=n/\n<=100/\0<=k/\k<=800000000
def N_EntriesOf:AcH2->List zP×Int->MOut:=fun(_,s,n,l,k,_) b=>⟨.sl tEntry b.1,[[.sl tI l,.int .i64 b.2]],[]⟩
def Z_EntriesOf:AcH2->List zP×Int->Prop:=fun(_,s,n,l,k,_) b=>(b.1.length:Int)<=n/\k<=b.2/\b.2<=k+20000/\∀e∈b.1,okN e
theorem X_EntriesOf:∃f:AcH2->List zP×Int,∀a,pr_EntriesOf a->(fun a b=>MFnOk P 21 L_EntriesOf a (N_EntriesOf a b)/\Z_EntriesOf a b) a (f a):=by
 refine choose_val (α:=AcH2) (β:=List zP×Int) (pr:=pr_EntriesOf) (R:=fun a b=>MFnOk P 21 L_EntriesOf a (N_EntriesOf a b)/\Z_EntriesOf a b) ?_
 rintro⟨⟨⟩,⟨j,m,p,q,r,⟨u,v,w⟩,g,z⟩,n,l,k,⟨⟩⟩ hp
 have key:(T_EntriesOf_t j m p q r u v w g z n l k).holds (fun s=>∃b,s=N_EntriesOf ((),(j,m,p,q,r,(u,v,w),g,z),n,l,k,()) b/\Z_EntriesOf ((),(j,m,p,q,r,(u,v,w),g,z),n,l,k,()) b):=by
  unfold T_EntriesOf_t
  obtain⟨hv,n0,n1,k0,k1⟩:SiteV (j,m,p,q,r,(u,v,w),g,z)/\0<=n/\n<=100/\0<=k/\k<=800000000:=hp
  have hi:inv_ens0 ((),n,(),[],l,k,j,m,p,q,r,u,v,w,g,z,()):=⟨hv,n0,k0,n1,by rw[List.length_nil];omega,fun e he=>by cases he⟩
  have hz:=S_ens0 _ hi
  refine⟨hi,?_⟩
  generalize O_ens0 ((),n,(),[],l,k,j,m,p,q,r,u,v,w,g,z,())=o at *
  obtain⟨o1,l',k',_⟩:=o
  obtain⟨b1,b2,b3,b4,b5⟩:l'=l/\k<=k'/\k'<=k+200*(n - (([]:List zP).length:Int))/\(o1.length:Int)<=n/\∀e∈o1,okN e:=hz
  subst b1
  rw[List.length_nil] at b3
  exact⟨(o1,k'),rfl,b4,b2,by show k'<=k+20000;omega,b5⟩
 obtain⟨s,⟨b,hs,hb⟩,h⟩:=m_rel hm (own:=false) (by kernel_rfl) (by kernel_rfl) (by kernel_rfl) (T_EntriesOf j m p q r u v w g z n l k) ⟨K_ens0,trivial⟩ key
 subst hs
 exact⟨b,h,hb⟩
def jJ:AcH2->List zP×Int:=Classical.choose X_EntriesOf
def c_EntriesOf:MC P:=MC.of (α:=AcH2) 21 L_EntriesOf (fun x=>x) (fun x=>x) (fun _=>rfl) (fun a=>some (pr_EntriesOf a)) (fun a=>N_EntriesOf a (jJ a)) (by kernel_rfl) (by kernel_rfl) (by kernel_rfl) (fun a h=>((Classical.choose_spec X_EntriesOf) a h).1)
end
end Go.MB
