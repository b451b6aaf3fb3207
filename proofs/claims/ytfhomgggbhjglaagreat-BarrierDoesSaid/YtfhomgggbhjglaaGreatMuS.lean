/- Entries at a site of which the lists are rows of its own: operations and the command. -/
import Derived.Test.YtfhomgggbhjglaaGreatMuR
namespace Go.MB
open Go Go.Sx Go.Proofs
set_option linter.unusedVariables false
set_option linter.unusedSimpArgs false
noncomputable section
theorem zAi{a b:Int}(h:(a != b)=true):a≠b:=by simpa using h
def opP(op:Int)(p:Pm):Bool:=p.1==op
def pIx(l:List Pm)(op:Int):Int:=ixS (opP op) l
theorem ixS_ltL{α:Type}{p:α->Bool}{l:List α}:ixS p l<l.length:=by
 unfold ixS
 split
 ·rename_i h
  have:=List.findIdx_lt_length_of_exists (List.any_eq_true.1 h)
  omega
 ·omega
def gPm(l:List Pm)(i:Int):Pm:=l.getD i.toNat (0,0,0,false)
def L_prm1:Lay:={ slots:=[(0,.agg (.pair tI (.pair tI (.pair tI .bool)))),(1,.ptr 1 0)],boxes:=[(1,[.val tI])] }
theorem T_prm1(p_0 p_1 p_2:Int)(p_3:Bool)(op:Int):jG (P:=P) [] (zH []) Tryz.f177 L_prm1 true ((p_0,(p_1,(p_2,p_3))),(),op,()) =
 Tree.leaf { res:=.bool (p_0==op),boxes:=[[.int .i64 op]] }:=by kernel_rfl
def c_prm1:MC P:=MC.of (α:=(Int×(Int×(Int×Bool)))×Unit×Int×Unit) 177 L_prm1 (fun x=>x) (fun x=>x) (fun _=>rfl)
 (fun _=>none)
 (fun x=>⟨.bool (opP x.2.2.1 x.1),[[.int .i64 x.2.2.1]],[]⟩) (by kernel_rfl) (by kernel_rfl) (by kernel_rfl) (by
  rintro⟨⟨p_0,⟨p_1,⟨p_2,p_3⟩⟩⟩,⟨⟩,op,⟨⟩⟩ hp
  refine yG hm (own:=true) (by kernel_rfl) (by kernel_rfl) (by kernel_rfl) (T_prm1 p_0 p_1 p_2 p_3 op) trivial ?_
  exact rfl)
def L_ixPmL:Lay:={ slots:=[(0,.rowk 51 49 tPm),(1,.clo 177 [(2,0)]),(7,.val tI),(8,.val tI)],boxes:=[(2,[.val tI])] }
def L_ixPmL_0:Lay:={ slots:=[(0,.rowk 51 49 tPm)],boxes:=[(2,[.val tI])] }
def L_ixPmL_1:Lay:={ slots:=[(0,.rowk 51 49 tPm),(4,.val tI)],boxes:=[(2,[.val tI])] }
def X_ixPmL:Exit->St->Option Lay
 |.exit 0,_=>some L_ixPmL_0
 |.ret,_=>some L_ixPmL_1
 |_,_=>none
abbrev C_ixPmL:Code:=jH (zJ Tryz.f106) 0
abbrev AuS2:Type:=List Pm×Unit×Int×Int×Int×Unit
theorem B_ixPmL(l:List Pm)(n i op:Int):zF (P:=P) [c_prm1.gc] (zH []) [] 19 (usd noU [2,51]) (jI C_ixPmL) L_ixPmL X_ixPmL (α:=AuS2) (fun x=>x) (fun x=>x) (l,(),n,i,op,()) =
 Tree.cond (decide (i<n)) (.need (0<=i/\i<(l.length:Int)) (.need (Int.toNat i<l.length) (.cond (opP op (l.getD i.toNat (0,0,0,false))) (.leaf (Sum.inr (Exit.ret,Lay.st L_ixPmL_1 (usd noU [2,51]) (l,i,op,())))) (.leaf (Sum.inl (l,(),n,IntKind.i64.wrap (i+1),op,())))))) (.leaf (Sum.inr (Exit.exit 0,Lay.st L_ixPmL_0 (usd noU [2,51]) (l,op,())))):=by kernel_rfl
def inv_ixPmL:AuS2->Prop:=fun(l,_,n,i,_)=>n=l.length/\0<=i/\i<=n/\(l.length:Int)<2 ^ 62
def O_ixPmL:AuS2->Tree (Exit×St):=fun(l,_,_,i,op,_)=>.cond ((l.drop i.toNat).any (opP op)) (.leaf (.ret,L_ixPmL_1.st (usd noU [2,51]) (l,ixR (opP op) l i,op,()))) (.leaf (.exit 0,L_ixPmL_0.st (usd noU [2,51]) (l,op,())))
def R_ixPmL:jS:=j_ 19 L_ixPmL (fun x=>x) inv_ixPmL O_ixPmL
theorem K_ixPmL:zU P [] 19 none (usd noU [2,51]) C_ixPmL R_ixPmL:=by
 refine zT hm (cx:=[c_prm1.gc]) [] (xl:=X_ixPmL) (α:=AuS2) (fun x=>x) (fun(_,_,n,i,_)=>(n - i).toNat) (fun _=>rfl) (by kernel_rfl) (by kernel_rfl) ?_ (by kernel_rfl) trivial ?_
 ·intro e S L' h
  unfold X_ixPmL at h
  split at h<;>cases h<;>kernel_rfl
 ·rintro⟨l,⟨⟩,n,i,op,⟨⟩⟩ hinv Q hQ
  refine zD (B_ixPmL l n i op) ?_
  obtain⟨rfl,h0,h1,h2⟩:=hinv
  rw[jZ (n:=i+1) (by omega) (by omega)]
  unfold O_ixPmL at hQ
  dsimp only at hQ
  refine⟨fun hi=>?_,fun hi=>?_⟩
  ·simp only[decide_eq_true_eq] at hi
   have hm:((l.length:Int) - (i+1)).toNat<((l.length:Int) - i).toNat:=by omega
   obtain⟨e1,e2,e3⟩:=ix_step (p:=opP op) ((0,0,0,false):Pm) h0 hi
   rw[e1] at hQ
   refine⟨⟨h0,hi⟩,⟨by omega,⟨fun hp=>?_,fun hp=>?_⟩⟩⟩
   ·replace hp:opP op (l.getD i.toNat ((0,0,0,false):Pm))=true:=hp
    rw[hp,Bool.true_or,e2 hp] at hQ
    exact hQ.1 rfl
   ·replace hp:opP op (l.getD i.toNat ((0,0,0,false):Pm))=false:=hp
    rw[hp,Bool.false_or,e3 hp] at hQ
    exact⟨⟨⟨rfl,by omega,by omega,h2⟩,hm⟩,hQ⟩
  ·simp only[decide_eq_false_iff_not] at hi
   rw[jB hi] at hQ
   exact hQ.2 rfl
def L_ixPm:Lay:={ slots:=[(0,.rowk 51 49 tPm),(1,.clo 177 [(2,0)])],boxes:=[(2,[.val tI])] }
theorem T_ixPm(l:List Pm)(op:Int):jG (P:=P) [] (zH [(0,R_ixPmL)]) Tryz.f106 L_ixPm true (l,(),op,()) =
 Tree.need (inv_ixPmL (l,(),(l.length:Int),0,op,())) (.cond (List.any (List.drop (Int.toNat 0) l) (opP op)) (.leaf { res:=.int .i64 (ixR (opP op) l 0),boxes:=[[.int .i64 op]],news:=[.row 49 tPm l]++[] }) (.leaf { res:=.int .i64 (-1:Int),boxes:=[[.int .i64 op]],news:=[.row 49 tPm l]++[] })):=by kernel_rfl
def c_ixPm:MC P:=MC.of (α:=List Pm×Unit×Int×Unit) 106 L_ixPm (fun x=>x) (fun x=>x) (fun _=>rfl)
 (fun(l,_)=>some ((l.length:Int)<2 ^ 62))
 (fun(l,_,op,_)=>⟨.int .i64 (pIx l op),[[.int .i64 op]],[.row 49 tPm l]⟩) (by kernel_rfl) (by kernel_rfl) (by kernel_rfl) (by
  rintro⟨l,⟨⟩,op,⟨⟩⟩ hp
  refine yG hm (own:=true) (by kernel_rfl) (by kernel_rfl) (by kernel_rfl) (T_ixPm l op) ⟨K_ixPmL,trivial⟩ ?_
  refine⟨⟨rfl,by omega,by omega,hp⟩,fun h=>?_,fun h=>?_⟩
  ·simp only[Int.toNat_zero,List.drop_zero] at h
   have e:ixR (opP op) l 0=pIx l op:=by
    unfold pIx ixS ixR
    rw[if_pos h]
    simp only[Int.toNat_zero,List.drop_zero,Int.zero_add]
   exact congrArg (fun k:Int=>(⟨.int .i64 k,[[.int .i64 op]],[.row 49 tPm l]⟩:MOut)) e
  ·simp only[Int.toNat_zero,List.drop_zero] at h
   have e : -1=pIx l op:=by
    unfold pIx ixS
    rw[if_neg (by simp only[h];decide)]
   exact congrArg (fun k:Int=>(⟨.int .i64 k,[[.int .i64 op]],[.row 49 tPm l]⟩:MOut)) e)
def L_prmA:Lay:={ slots:=[(0,.ptr 1 0),(1,.val tI)],boxes:=[(1,gJ)] }
theorem T_prmA(op:Int)(o j r v u:Int)(d:List E4)(f:List (List Int))(g:Int)(c:List Pm)(t:Int):jG (P:=P) [c_ixPm.gc] (zH []) Tryz.f161 L_prmA true ((),op,o,j,r,v,u,d,f,g,c,t,()) =
 Tree.need ((c.length:Int)<2 ^ 62) (.cond (decide (pIx c op<0)) (.leaf { res:=SV.nilp,boxes:=[[.int .i64 o,.int .i64 j,.int .i64 r,.int .i64 v,.int .i64 u,.own 50,.sl tIs f,.int .i64 g,.own 51,.int .i64 t]],news:=[.row 47 tEl d,.row 49 tPm c]++[] }) (.need (0<=pIx c op/\pIx c op<(c.length:Int)) (.leaf { res:=SV.oel 51 4 (Int.toNat (pIx c op)) 0,boxes:=[[.int .i64 o,.int .i64 j,.int .i64 r,.int .i64 v,.int .i64 u,.own 50,.sl tIs f,.int .i64 g,.own 51,.int .i64 t]],news:=[.row 47 tEl d,.row 49 tPm c]++[] }))):=by kernel_rfl
abbrev AuS3:Type:=Unit×Int×Int×Int×Int×Int×Int×List E4×List (List Int)×Int×List Pm×Int×Unit
def c_prmA:MC P:=MC.of (α:=AuS3) 161 L_prmA (fun x=>x) (fun x=>x) (fun _=>rfl)
 (fun(_,op,_,_,_,_,_,_,_,_,c,_)=>some ((c.length:Int)<2 ^ 62/\0<=pIx c op))
 (fun(_,op,o,j,r,v,u,d,f,g,c,t,_)=>⟨.oel 51 4 (pIx c op).toNat 0,[zV (o,j,r,v,u,(d,f,g),c,t)],zW (o,j,r,v,u,(d,f,g),c,t)⟩) (by kernel_rfl) (by kernel_rfl) (by kernel_rfl) (by
  rintro⟨⟨⟩,op,o,j,r,v,u,d,f,g,c,t,⟨⟩⟩ hp
  refine yG hm (own:=true) (by kernel_rfl) (by kernel_rfl) (by kernel_rfl) (T_prmA op o j r v u d f g c t) trivial ?_
  obtain⟨h1,h2⟩:(c.length:Int)<2 ^ 62/\0<=pIx c op:=hp
  have h3:pIx c op<c.length:=ixS_ltL
  refine⟨h1,fun c1=>?_,fun c1=>⟨⟨h2,h3⟩,rfl⟩⟩
  have:=dcT c1;omega)
def L_prmB:Lay:={ slots:=[(0,.ptr 1 0),(1,.val tI)],boxes:=[(1,gJ)] }
theorem T_prmB(op:Int)(o j r v u:Int)(d:List E4)(f:List (List Int))(g:Int)(c:List Pm)(t:Int):jG (P:=P) [c_ixPm.gc] (zH []) Tryz.f161 L_prmB true ((),op,o,j,r,v,u,d,f,g,c,t,()) =
 Tree.need ((c.length:Int)<2 ^ 62) (.cond (decide (pIx c op<0)) (.leaf { res:=SV.nilp,boxes:=[[.int .i64 o,.int .i64 j,.int .i64 r,.int .i64 v,.int .i64 u,.own 50,.sl tIs f,.int .i64 g,.own 51,.int .i64 t]],news:=[.row 47 tEl d,.row 49 tPm c]++[] }) (.need (0<=pIx c op/\pIx c op<(c.length:Int)) (.leaf { res:=SV.oel 51 4 (Int.toNat (pIx c op)) 0,boxes:=[[.int .i64 o,.int .i64 j,.int .i64 r,.int .i64 v,.int .i64 u,.own 50,.sl tIs f,.int .i64 g,.own 51,.int .i64 t]],news:=[.row 47 tEl d,.row 49 tPm c]++[] }))):=by kernel_rfl
def c_prmB:MC P:=MC.of (α:=AuS3) 161 L_prmB (fun x=>x) (fun x=>x) (fun _=>rfl)
 (fun(_,op,_,_,_,_,_,_,_,_,c,_)=>some ((c.length:Int)<2 ^ 62/\¬ 0<=pIx c op))
 (fun(_,_,o,j,r,v,u,d,f,g,c,t,_)=>⟨.nilp,[zV (o,j,r,v,u,(d,f,g),c,t)],zW (o,j,r,v,u,(d,f,g),c,t)⟩) (by kernel_rfl) (by kernel_rfl) (by kernel_rfl) (by
  rintro⟨⟨⟩,op,o,j,r,v,u,d,f,g,c,t,⟨⟩⟩ hp
  refine yG hm (own:=true) (by kernel_rfl) (by kernel_rfl) (by kernel_rfl) (T_prmB op o j r v u d f g c t) trivial ?_
  obtain⟨h1,h2⟩:(c.length:Int)<2 ^ 62/\¬ 0<=pIx c op:=hp
  refine⟨h1,fun c1=>rfl,fun c1=>?_⟩
  have:=dcF c1;omega)
def sPrm(args:List SV)(H:Hp):Option Bool:=match args with
 | [.ptr k _,.int _ op]=>match H k with
  |some (.box bs)=>match Sh.ext H (.row 49 tPm) (bs.getD 8 .any) with
   |some l=>some (decide (0<=pIx l op))
   |none=>none
  |_=>none
 |_=>none
def c_prm:GC P:=GC.split sPrm c_prmA.gc c_prmB.gc (by kernel_rfl)
def pmT(s:zE)(e:zN):Pm:=gPm s.2.2.2.2.2.2.1 (pIx s.2.2.2.2.2.2.1 e.2.2.2.1)
def staE(s:zE)(e:zN):Int:=if pIx s.2.2.2.2.2.2.1 e.2.2.2.1<0 then 7 else if (pmT s e).2.1≠e.2.2.1 then 7 else if (pmT s e).2.2.2=true then 9 else if e.1>(pmT s e).2.2.1 then 13 else if zQ s.2.2.2.2.2.1 e.1 s.2.2.2.2.1=false then 15 else 0
def staL(s:zE)(e:zN):List Pm:=if staE s e=0 then s.2.2.2.2.2.2.1.set (pIx s.2.2.2.2.2.2.1 e.2.2.2.1).toNat ((pmT s e).1,(pmT s e).2.1,(pmT s e).2.2.1,true) else s.2.2.2.2.2.2.1
def stoE(s:zE)(e:zN):Int:=if pIx s.2.2.2.2.2.2.1 e.2.2.2.1<0 then 7 else if (pmT s e).2.2.2=false then 7 else if e.2.2.1≠(pmT s e).2.1/\e.2.2.1≠s.2.2.1 then 10 else 0
def zAc(s:zE)(e:zN):List Pm:=if stoE s e=0 then s.2.2.2.2.2.2.1.set (pIx s.2.2.2.2.2.2.1 e.2.2.2.1).toNat ((pmT s e).1,(pmT s e).2.1,(pmT s e).2.2.1,false) else s.2.2.2.2.2.2.1
def setP(s:zE)(p:Int):zE:=(s.1,s.2.1,s.2.2.1,s.2.2.2.1,p,s.2.2.2.2.2.1,s.2.2.2.2.2.2.1,s.2.2.2.2.2.2.2)
def prsQ(s:zE)(e:zN):Int:=if e.2.2.1≠s.2.2.1 then 10 else if wi e.2.2.2.2.2 0 68719476736=false then 2 else 0
def kN(s:zE)(e:zN):Int:=if prsQ s e≠0 then prsQ s e else if jM (setP s e.2.2.2.2.2) e.1=false then 15 else 0
def prsN(s:zE)(e:zN):Int:=if prsQ s e=0 then e.2.2.2.2.2 else s.2.2.2.2.1
def L_start:Lay:={ slots:=[(0,.ptr 1 0),(1,.agg jE)],boxes:=[(1,gJ)] }
theorem T_start(e0 e1 e2 e3 e4 e5:Int)(o j r v u:Int)(d:List E4)(f:List (List Int))(g:Int)(c:List Pm)(t:Int):jG (P:=P) [c_prm,c_holdsX.gc] (zH []) Tryz.f142 L_start true ((),(e0,e1,e2,e3,e4,e5),o,j,r,v,u,d,f,g,c,t,()) =
 Tree.cond (decide (0<=pIx c e3)) (.need ((c.length:Int)<2 ^ 62/\0<=pIx c e3) (.cond false (.leaf { res:=.int .i64 7,boxes:=[[.int .i64 o,.int .i64 j,.int .i64 r,.int .i64 v,.int .i64 u,.own 50,.sl tIs f,.int .i64 g,.own 51,.int .i64 t]],news:=[.row 47 tEl d,.row 49 tPm c]++[] }) (.need (Int.toNat (pIx c e3)<c.length) (.cond ((List.getD c (Int.toNat (pIx c e3)) ((0:Int),(0:Int),(0:Int),false)).2.1 != e2) (.leaf { res:=.int .i64 7,boxes:=[[.int .i64 o,.int .i64 j,.int .i64 r,.int .i64 v,.int .i64 u,.own 50,.sl tIs f,.int .i64 g,.own 51,.int .i64 t]],news:=[.row 47 tEl d,.row 49 tPm c]++[] }) (.need (Int.toNat (pIx c e3)<c.length) (.cond (List.getD c (Int.toNat (pIx c e3)) ((0:Int),(0:Int),(0:Int),false)).2.2.2 (.leaf { res:=.int .i64 9,boxes:=[[.int .i64 o,.int .i64 j,.int .i64 r,.int .i64 v,.int .i64 u,.own 50,.sl tIs f,.int .i64 g,.own 51,.int .i64 t]],news:=[.row 47 tEl d,.row 49 tPm c]++[] }) (.need (Int.toNat (pIx c e3)<c.length) (.cond (decide (e0>(List.getD c (Int.toNat (pIx c e3)) ((0:Int),(0:Int),(0:Int),false)).2.2.1)) (.leaf { res:=.int .i64 13,boxes:=[[.int .i64 o,.int .i64 j,.int .i64 r,.int .i64 v,.int .i64 u,.own 50,.sl tIs f,.int .i64 g,.own 51,.int .i64 t]],news:=[.row 47 tEl d,.row 49 tPm c]++[] }) (.need (zB (d,f,g)=0) (.cond (!zQ (d,f,g) e0 u) (.leaf { res:=.int .i64 15,boxes:=[[.int .i64 o,.int .i64 j,.int .i64 r,.int .i64 v,.int .i64 u,.own 50,.sl tIs f,.int .i64 g,.own 51,.int .i64 t]],news:=[.row 47 tEl d,.row 49 tPm c]++[] }) (.need (Int.toNat (pIx c e3)<c.length) (.leaf { res:=.int .i64 0,boxes:=[[.int .i64 o,.int .i64 j,.int .i64 r,.int .i64 v,.int .i64 u,.own 50,.sl tIs f,.int .i64 g,.own 51,.int .i64 t]],news:=[.row 47 tEl d,.row 49 tPm (List.set c (Int.toNat (pIx c e3)) ((List.getD c (Int.toNat (pIx c e3)) ((0:Int),(0:Int),(0:Int),false)).1,(List.getD c (Int.toNat (pIx c e3)) ((0:Int),(0:Int),(0:Int),false)).2.1,(List.getD c (Int.toNat (pIx c e3)) ((0:Int),(0:Int),(0:Int),false)).2.2.1,true))]++[] })))))))))))) (.need ((c.length:Int)<2 ^ 62/\¬0<=pIx c e3) (.cond true (.leaf { res:=.int .i64 7,boxes:=[[.int .i64 o,.int .i64 j,.int .i64 r,.int .i64 v,.int .i64 u,.own 50,.sl tIs f,.int .i64 g,.own 51,.int .i64 t]],news:=[.row 47 tEl d,.row 49 tPm c]++[] }) (Tree.fail 1015))):=by kernel_rfl
abbrev AuS1:Type:=Unit×zN×Int×Int×Int×Int×Int×List E4×List (List Int)×Int×List Pm×Int×Unit
def c_start:MC P:=MC.of (α:=AuS1) 142 L_start (fun x=>x) (fun x=>x) (fun _=>rfl)
 (fun(_,_,_,_,_,_,_,d,f,g,c,_)=>some ((c.length:Int)<2 ^ 62/\zB (d,f,g)=0))
 (fun(_,e,o,j,r,v,u,d,f,g,c,t,_)=>⟨.int .i64 (staE (o,j,r,v,u,(d,f,g),c,t) e),[zV (o,j,r,v,u,(d,f,g),staL (o,j,r,v,u,(d,f,g),c,t) e,t)],zW (o,j,r,v,u,(d,f,g),staL (o,j,r,v,u,(d,f,g),c,t) e,t)⟩) (by kernel_rfl) (by kernel_rfl) (by kernel_rfl) (by
  rintro⟨⟨⟩,⟨e0,e1,e2,e3,e4,e5⟩,o,j,r,v,u,d,f,g,c,t,⟨⟩⟩ hp
  refine yG hm (own:=true) (by kernel_rfl) (by kernel_rfl) (by kernel_rfl) (T_start e0 e1 e2 e3 e4 e5 o j r v u d f g c t) trivial ?_
  obtain⟨p1,p2⟩:(c.length:Int)<2 ^ 62/\zB (d,f,g)=0:=hp
  have fin:∀(m:Int)(l:List Pm),staE (o,j,r,v,u,(d,f,g),c,t) (e0,e1,e2,e3,e4,e5)=m->staL (o,j,r,v,u,(d,f,g),c,t) (e0,e1,e2,e3,e4,e5)=l->(⟨.int .i64 m,[zV (o,j,r,v,u,(d,f,g),l,t)],zW (o,j,r,v,u,(d,f,g),l,t)⟩:MOut)=⟨.int .i64 (staE (o,j,r,v,u,(d,f,g),c,t) (e0,e1,e2,e3,e4,e5)),[zV (o,j,r,v,u,(d,f,g),staL (o,j,r,v,u,(d,f,g),c,t) (e0,e1,e2,e3,e4,e5),t)],zW (o,j,r,v,u,(d,f,g),staL (o,j,r,v,u,(d,f,g),c,t) (e0,e1,e2,e3,e4,e5),t)⟩:=fun m l h1 h2=>by rw[h1,h2]
  
  have bad:∀n:Int,n≠0->staE (o,j,r,v,u,(d,f,g),c,t) (e0,e1,e2,e3,e4,e5)=n->(⟨.int .i64 n,[zV (o,j,r,v,u,(d,f,g),c,t)],zW (o,j,r,v,u,(d,f,g),c,t)⟩:MOut)=_:=fun n h0 h=>fin n c h (by unfold staL;rw[h,if_neg h0])
  have hlt:pIx c e3<c.length:=ixS_ltL
  refine⟨fun c1=>?_,fun c1=>?_⟩
  ·have d1:0<=pIx c e3:=dcT c1
   have d2:(pIx c e3).toNat<c.length:=by omega
   have f1:∀n:Int,(if (gPm c (pIx c e3)).2.1≠e2 then 7 else if (gPm c (pIx c e3)).2.2.2=true then 9 else if e0>(gPm c (pIx c e3)).2.2.1 then 13 else if zQ (d,f,g) e0 u=false then 15 else 0)=n->staE (o,j,r,v,u,(d,f,g),c,t) (e0,e1,e2,e3,e4,e5)=n:=fun n h=>by unfold staE;rw[if_neg (show ¬ pIx c e3<0 by omega)];exact h
   refine⟨⟨p1,d1⟩,⟨fun c2=>(by cases c2),fun _=>⟨d2,⟨fun c3=>bad 7 (by decide) (f1 _ ?_),fun c3=>⟨d2,⟨fun c4=>bad 9 (by decide) (f1 _ ?_),fun c4=>⟨d2,⟨fun c5=>bad 13 (by decide) (f1 _ ?_),fun c5=>⟨p2,⟨fun c6=>bad 15 (by decide) (f1 _ ?_),fun c6=>⟨d2,?_⟩⟩⟩⟩⟩⟩⟩⟩⟩⟩⟩
   ·exact if_pos (zAi c3)
   all_goals have d3:(gPm c (pIx c e3)).2.1=e2:=wF c3
   ·rw[if_neg (fun k=>k d3)];exact if_pos c4
   all_goals have d4:¬ (gPm c (pIx c e3)).2.2.2=true:=fun k=>by rw[show (gPm c (pIx c e3)).2.2.2=false from c4] at k;cases k
   ·rw[if_neg (fun k=>k d3),if_neg d4];exact if_pos (dcT c5)
   all_goals have d5:¬ e0>(gPm c (pIx c e3)).2.2.1:=dcF c5
   ·rw[if_neg (fun k=>k d3),if_neg d4,if_neg d5];exact if_pos (xP c6)
   ·have d6:zQ (d,f,g) e0 u=true:=qR c6
    have e:=f1 0 (by rw[if_neg (fun k=>k d3),if_neg d4,if_neg d5,if_neg (by rw[d6];decide)])
    exact fin 0 _ e (by unfold staL;rw[if_pos e];rfl)
  ·have d1:¬ 0<=pIx c e3:=dcF c1
   have e:staE (o,j,r,v,u,(d,f,g),c,t) (e0,e1,e2,e3,e4,e5)=7:=by unfold staE;rw[if_pos (show pIx c e3<0 by omega)]
   exact⟨⟨p1,d1⟩,⟨fun c7=>bad 7 (by decide) e,fun c7=>(by cases c7)⟩⟩)
def L_stop:Lay:={ slots:=[(0,.ptr 1 0),(1,.agg jE)],boxes:=[(1,gJ)] }
theorem T_stop(e0 e1 e2 e3 e4 e5:Int)(o j r v u:Int)(d:List E4)(f:List (List Int))(g:Int)(c:List Pm)(t:Int):jG (P:=P) [c_prm] (zH []) Tryz.f143 L_stop true ((),(e0,e1,e2,e3,e4,e5),o,j,r,v,u,d,f,g,c,t,()) =
 Tree.cond (decide (0<=pIx c e3)) (.need ((c.length:Int)<2 ^ 62/\0<=pIx c e3) (.cond false (.leaf { res:=.int .i64 7,boxes:=[[.int .i64 o,.int .i64 j,.int .i64 r,.int .i64 v,.int .i64 u,.own 50,.sl tIs f,.int .i64 g,.own 51,.int .i64 t]],news:=[.row 47 tEl d,.row 49 tPm c]++[] }) (.need (Int.toNat (pIx c e3)<c.length) (.cond (!(List.getD c (Int.toNat (pIx c e3)) ((0:Int),(0:Int),(0:Int),false)).2.2.2) (.leaf { res:=.int .i64 7,boxes:=[[.int .i64 o,.int .i64 j,.int .i64 r,.int .i64 v,.int .i64 u,.own 50,.sl tIs f,.int .i64 g,.own 51,.int .i64 t]],news:=[.row 47 tEl d,.row 49 tPm c]++[] }) (.need (Int.toNat (pIx c e3)<c.length) (.cond (e2 != (List.getD c (Int.toNat (pIx c e3)) ((0:Int),(0:Int),(0:Int),false)).2.1) (.cond (e2 != r) (.leaf { res:=.int .i64 10,boxes:=[[.int .i64 o,.int .i64 j,.int .i64 r,.int .i64 v,.int .i64 u,.own 50,.sl tIs f,.int .i64 g,.own 51,.int .i64 t]],news:=[.row 47 tEl d,.row 49 tPm c]++[] }) (.need (Int.toNat (pIx c e3)<c.length) (.leaf { res:=.int .i64 0,boxes:=[[.int .i64 o,.int .i64 j,.int .i64 r,.int .i64 v,.int .i64 u,.own 50,.sl tIs f,.int .i64 g,.own 51,.int .i64 t]],news:=[.row 47 tEl d,.row 49 tPm (List.set c (Int.toNat (pIx c e3)) ((List.getD c (Int.toNat (pIx c e3)) ((0:Int),(0:Int),(0:Int),false)).1,(List.getD c (Int.toNat (pIx c e3)) ((0:Int),(0:Int),(0:Int),false)).2.1,(List.getD c (Int.toNat (pIx c e3)) ((0:Int),(0:Int),(0:Int),false)).2.2.1,false))]++[] }))) (.need (Int.toNat (pIx c e3)<c.length) (.leaf { res:=.int .i64 0,boxes:=[[.int .i64 o,.int .i64 j,.int .i64 r,.int .i64 v,.int .i64 u,.own 50,.sl tIs f,.int .i64 g,.own 51,.int .i64 t]],news:=[.row 47 tEl d,.row 49 tPm (List.set c (Int.toNat (pIx c e3)) ((List.getD c (Int.toNat (pIx c e3)) ((0:Int),(0:Int),(0:Int),false)).1,(List.getD c (Int.toNat (pIx c e3)) ((0:Int),(0:Int),(0:Int),false)).2.1,(List.getD c (Int.toNat (pIx c e3)) ((0:Int),(0:Int),(0:Int),false)).2.2.1,false))]++[] })))))))) (.need ((c.length:Int)<2 ^ 62/\¬0<=pIx c e3) (.cond true (.leaf { res:=.int .i64 7,boxes:=[[.int .i64 o,.int .i64 j,.int .i64 r,.int .i64 v,.int .i64 u,.own 50,.sl tIs f,.int .i64 g,.own 51,.int .i64 t]],news:=[.row 47 tEl d,.row 49 tPm c]++[] }) (Tree.fail 1015))):=by kernel_rfl
def c_stop:MC P:=MC.of (α:=AuS1) 143 L_stop (fun x=>x) (fun x=>x) (fun _=>rfl)
 (fun(_,_,_,_,_,_,_,_,_,_,c,_)=>some ((c.length:Int)<2 ^ 62))
 (fun(_,e,o,j,r,v,u,d,f,g,c,t,_)=>⟨.int .i64 (stoE (o,j,r,v,u,(d,f,g),c,t) e),[zV (o,j,r,v,u,(d,f,g),zAc (o,j,r,v,u,(d,f,g),c,t) e,t)],zW (o,j,r,v,u,(d,f,g),zAc (o,j,r,v,u,(d,f,g),c,t) e,t)⟩) (by kernel_rfl) (by kernel_rfl) (by kernel_rfl) (by
  rintro⟨⟨⟩,⟨e0,e1,e2,e3,e4,e5⟩,o,j,r,v,u,d,f,g,c,t,⟨⟩⟩ hp
  refine yG hm (own:=true) (by kernel_rfl) (by kernel_rfl) (by kernel_rfl) (T_stop e0 e1 e2 e3 e4 e5 o j r v u d f g c t) trivial ?_
  have p1:(c.length:Int)<2 ^ 62:=hp
  have fin:∀(m:Int)(l:List Pm),stoE (o,j,r,v,u,(d,f,g),c,t) (e0,e1,e2,e3,e4,e5)=m->zAc (o,j,r,v,u,(d,f,g),c,t) (e0,e1,e2,e3,e4,e5)=l->(⟨.int .i64 m,[zV (o,j,r,v,u,(d,f,g),l,t)],zW (o,j,r,v,u,(d,f,g),l,t)⟩:MOut)=⟨.int .i64 (stoE (o,j,r,v,u,(d,f,g),c,t) (e0,e1,e2,e3,e4,e5)),[zV (o,j,r,v,u,(d,f,g),zAc (o,j,r,v,u,(d,f,g),c,t) (e0,e1,e2,e3,e4,e5),t)],zW (o,j,r,v,u,(d,f,g),zAc (o,j,r,v,u,(d,f,g),c,t) (e0,e1,e2,e3,e4,e5),t)⟩:=fun m l h1 h2=>by rw[h1,h2]
  
  have bad:∀n:Int,n≠0->stoE (o,j,r,v,u,(d,f,g),c,t) (e0,e1,e2,e3,e4,e5)=n->(⟨.int .i64 n,[zV (o,j,r,v,u,(d,f,g),c,t)],zW (o,j,r,v,u,(d,f,g),c,t)⟩:MOut)=_:=fun n h0 h=>fin n c h (by unfold zAc;rw[h,if_neg h0])
  have hlt:pIx c e3<c.length:=ixS_ltL
  refine⟨fun c1=>?_,fun c1=>?_⟩
  ·have d1:0<=pIx c e3:=dcT c1
   have d2:(pIx c e3).toNat<c.length:=by omega
   have f1:∀n:Int,(if (gPm c (pIx c e3)).2.2.2=false then 7 else if e2≠(gPm c (pIx c e3)).2.1/\e2≠r then 10 else 0)=n->stoE (o,j,r,v,u,(d,f,g),c,t) (e0,e1,e2,e3,e4,e5)=n:=fun n h=>by unfold stoE;rw[if_neg (show ¬ pIx c e3<0 by omega)];exact h
   refine⟨⟨p1,d1⟩,⟨fun c2=>(by cases c2),fun _=>⟨d2,⟨fun c3=>bad 7 (by decide) (f1 _ ?_),fun c3=>⟨d2,⟨fun c4=>⟨fun c5=>bad 10 (by decide) (f1 _ ?_),fun c5=>⟨d2,?_⟩⟩,fun c4=>⟨d2,?_⟩⟩⟩⟩⟩⟩⟩
   ·exact if_pos (xP c3)
   all_goals have d3:¬ (gPm c (pIx c e3)).2.2.2=false:=fun k=>by rw[show (gPm c (pIx c e3)).2.2.2=true from qR c3] at k;cases k
   ·rw[if_neg d3];exact if_pos ⟨zAi c4,zAi c5⟩
   ·have d5:e2=r:=wF c5
    have e:=f1 0 (by rw[if_neg d3,if_neg (fun k=>k.2 d5)])
    exact fin 0 _ e (by unfold zAc;rw[if_pos e];rfl)
   ·have d4:e2=(gPm c (pIx c e3)).2.1:=wF c4
    have e:=f1 0 (by rw[if_neg d3,if_neg (fun k=>k.1 d4)])
    exact fin 0 _ e (by unfold zAc;rw[if_pos e];rfl)
  ·have d1:¬ 0<=pIx c e3:=dcF c1
   have e:stoE (o,j,r,v,u,(d,f,g),c,t) (e0,e1,e2,e3,e4,e5)=7:=by unfold stoE;rw[if_pos (show pIx c e3<0 by omega)]
   exact⟨⟨p1,d1⟩,⟨fun c7=>bad 7 (by decide) e,fun c7=>(by cases c7)⟩⟩)
def L_press:Lay:={ slots:=[(0,.ptr 1 0),(1,.agg jE)],boxes:=[(1,gJ)] }
theorem T_press(e0 e1 e2 e3 e4 e5:Int)(o j r v u:Int)(d:List E4)(f:List (List Int))(g:Int)(c:List Pm)(t:Int):jG (P:=P) [wE.gc,c_keepsX.gc] (zH []) Tryz.f138 L_press true ((),(e0,e1,e2,e3,e4,e5),o,j,r,v,u,d,f,g,c,t,()) =
 Tree.cond (e2 != r) (.leaf { res:=.int .i64 10,boxes:=[[.int .i64 o,.int .i64 j,.int .i64 r,.int .i64 v,.int .i64 u,.own 50,.sl tIs f,.int .i64 g,.own 51,.int .i64 t]],news:=[.row 47 tEl d,.row 49 tPm c]++[] }) (.cond (!wi e5 0 68719476736) (.leaf { res:=.int .i64 2,boxes:=[[.int .i64 o,.int .i64 j,.int .i64 r,.int .i64 v,.int .i64 u,.own 50,.sl tIs f,.int .i64 g,.own 51,.int .i64 t]],news:=[.row 47 tEl d,.row 49 tPm c]++[] }) (.need (zB (d,f,g)=0/\c.length<=1000) (.cond (!jM (o,j,r,v,e5,(d,f,g),c,t) e0) (.leaf { res:=.int .i64 15,boxes:=[[.int .i64 o,.int .i64 j,.int .i64 r,.int .i64 v,.int .i64 e5,.own 50,.sl tIs f,.int .i64 g,.own 51,.int .i64 t]],news:=[.row 47 tEl d,.row 49 tPm c]++[] }) (.leaf { res:=.int .i64 0,boxes:=[[.int .i64 o,.int .i64 j,.int .i64 r,.int .i64 v,.int .i64 e5,.own 50,.sl tIs f,.int .i64 g,.own 51,.int .i64 t]],news:=[.row 47 tEl d,.row 49 tPm c]++[] })))):=by kernel_rfl
def c_press:MC P:=MC.of (α:=AuS1) 138 L_press (fun x=>x) (fun x=>x) (fun _=>rfl)
 (fun(_,_,_,_,_,_,_,d,f,g,c,_)=>some (zB (d,f,g)=0/\c.length<=1000))
 (fun(_,e,o,j,r,v,u,d,f,g,c,t,_)=>⟨.int .i64 (kN (o,j,r,v,u,(d,f,g),c,t) e),[zV (o,j,r,v,prsN (o,j,r,v,u,(d,f,g),c,t) e,(d,f,g),c,t)],zW (o,j,r,v,prsN (o,j,r,v,u,(d,f,g),c,t) e,(d,f,g),c,t)⟩) (by kernel_rfl) (by kernel_rfl) (by kernel_rfl) (by
  rintro⟨⟨⟩,⟨e0,e1,e2,e3,e4,e5⟩,o,j,r,v,u,d,f,g,c,t,⟨⟩⟩ hp
  refine yG hm (own:=true) (by kernel_rfl) (by kernel_rfl) (by kernel_rfl) (T_press e0 e1 e2 e3 e4 e5 o j r v u d f g c t) trivial ?_
  obtain⟨p1,p2⟩:zB (d,f,g)=0/\c.length<=1000:=hp
  have fin:∀(m n:Int),kN (o,j,r,v,u,(d,f,g),c,t) (e0,e1,e2,e3,e4,e5)=m->prsN (o,j,r,v,u,(d,f,g),c,t) (e0,e1,e2,e3,e4,e5)=n->(⟨.int .i64 m,[zV (o,j,r,v,n,(d,f,g),c,t)],zW (o,j,r,v,n,(d,f,g),c,t)⟩:MOut)=⟨.int .i64 (kN (o,j,r,v,u,(d,f,g),c,t) (e0,e1,e2,e3,e4,e5)),[zV (o,j,r,v,prsN (o,j,r,v,u,(d,f,g),c,t) (e0,e1,e2,e3,e4,e5),(d,f,g),c,t)],zW (o,j,r,v,prsN (o,j,r,v,u,(d,f,g),c,t) (e0,e1,e2,e3,e4,e5),(d,f,g),c,t)⟩:=fun m n h1 h2=>by rw[h1,h2]
  have bad:∀n:Int,n≠0->prsQ (o,j,r,v,u,(d,f,g),c,t) (e0,e1,e2,e3,e4,e5)=n->(⟨.int .i64 n,[zV (o,j,r,v,u,(d,f,g),c,t)],zW (o,j,r,v,u,(d,f,g),c,t)⟩:MOut)=_:=fun n h0 h=>fin n u (by unfold kN;rw[if_pos (by rw[h];exact h0)];exact h) (by unfold prsN;rw[if_neg (by rw[h];exact h0)])
  refine⟨fun c1=>bad 10 (by decide) ?_,fun c1=>⟨fun c2=>bad 2 (by decide) ?_,fun c2=>?_⟩⟩
  ·exact if_pos (zAi c1)
  all_goals have d1:¬ e2≠r:=fun k=>k (wF c1)
  ·unfold prsQ;rw[if_neg d1];exact if_pos (xP c2)
  ·have d2:¬ wi e5 0 68719476736=false:=by rw[qR c2];decide
   have q:prsQ (o,j,r,v,u,(d,f,g),c,t) (e0,e1,e2,e3,e4,e5)=0:=by unfold prsQ;rw[if_neg d1];exact if_neg d2
   have n:prsN (o,j,r,v,u,(d,f,g),c,t) (e0,e1,e2,e3,e4,e5)=e5:=by unfold prsN;rw[if_pos q]
   refine⟨⟨p1,p2⟩,⟨fun c3=>fin 15 e5 ?_ n,fun c3=>fin 0 e5 ?_ n⟩⟩
   ·unfold kN;rw[if_neg (fun k=>k q)];exact if_pos (xP c3)
   ·have d3:jM (setP (o,j,r,v,u,(d,f,g),c,t) e5) e0=true:=qR c3
    unfold kN;rw[if_neg (fun k=>k q)];exact if_neg (show ¬ jM (setP (o,j,r,v,u,(d,f,g),c,t) e5) e0=false by rw[d3];decide))
def L_offerR:Lay:={ slots:=[(0,.ptr 1 0),(1,.agg jE)],boxes:=[(1,gJ)] }
theorem T_offerR(e0 e1 e2 e3 e4 e5:Int)(o j r v u:Int)(d:List E4)(f:List (List Int))(g:Int)(c:List Pm)(t:Int):jG (P:=P) [c_memberX.gc] (zH []) Tryz.f139 L_offerR true ((),(e0,e1,e2,e3,e4,e5),o,j,r,v,u,d,f,g,c,t,()) =
 Tree.cond (e2 != r) (.leaf { res:=.int .i64 10,boxes:=[[.int .i64 o,.int .i64 j,.int .i64 r,.int .i64 v,.int .i64 u,.own 50,.sl tIs f,.int .i64 g,.own 51,.int .i64 t]],news:=[.row 47 tEl d,.row 49 tPm c]++[] }) (.cond (!vB j e4) (.leaf { res:=.int .i64 2,boxes:=[[.int .i64 o,.int .i64 j,.int .i64 r,.int .i64 v,.int .i64 u,.own 50,.sl tIs f,.int .i64 g,.own 51,.int .i64 t]],news:=[.row 47 tEl d,.row 49 tPm c]++[] }) (.cond (e4==r) (.leaf { res:=.int .i64 2,boxes:=[[.int .i64 o,.int .i64 j,.int .i64 r,.int .i64 v,.int .i64 u,.own 50,.sl tIs f,.int .i64 g,.own 51,.int .i64 t]],news:=[.row 47 tEl d,.row 49 tPm c]++[] }) (.leaf { res:=.int .i64 0,boxes:=[[.int .i64 o,.int .i64 j,.int .i64 r,.int .i64 e4,.int .i64 u,.own 50,.sl tIs f,.int .i64 g,.own 51,.int .i64 t]],news:=[.row 47 tEl d,.row 49 tPm c]++[] }))):=by kernel_rfl
def c_offerR:MC P:=MC.of (α:=AuS1) 139 L_offerR (fun x=>x) (fun x=>x) (fun _=>rfl)
 (fun _=>none)
 (fun(_,e,o,j,r,v,u,d,f,g,c,t,_)=>⟨.int .i64 (pL (o,j,r,v,u,(d,f,g),c,t) e),[zV (o,j,r,gX (o,j,r,v,u,(d,f,g),c,t) e,u,(d,f,g),c,t)],zW (o,j,r,gX (o,j,r,v,u,(d,f,g),c,t) e,u,(d,f,g),c,t)⟩) (by kernel_rfl) (by kernel_rfl) (by kernel_rfl) (by
  rintro⟨⟨⟩,⟨e0,e1,e2,e3,e4,e5⟩,o,j,r,v,u,d,f,g,c,t,⟨⟩⟩ hp
  refine yG hm (own:=true) (by kernel_rfl) (by kernel_rfl) (by kernel_rfl) (T_offerR e0 e1 e2 e3 e4 e5 o j r v u d f g c t) trivial ?_
  have fin:∀(m n:Int),pL (o,j,r,v,u,(d,f,g),c,t) (e0,e1,e2,e3,e4,e5)=m->gX (o,j,r,v,u,(d,f,g),c,t) (e0,e1,e2,e3,e4,e5)=n->(⟨.int .i64 m,[zV (o,j,r,n,u,(d,f,g),c,t)],zW (o,j,r,n,u,(d,f,g),c,t)⟩:MOut)=⟨.int .i64 (pL (o,j,r,v,u,(d,f,g),c,t) (e0,e1,e2,e3,e4,e5)),[zV (o,j,r,gX (o,j,r,v,u,(d,f,g),c,t) (e0,e1,e2,e3,e4,e5),u,(d,f,g),c,t)],zW (o,j,r,gX (o,j,r,v,u,(d,f,g),c,t) (e0,e1,e2,e3,e4,e5),u,(d,f,g),c,t)⟩:=fun m n h1 h2=>by rw[h1,h2]
  unfold gX pL offB at fin
  dsimp only at fin
  refine⟨fun c1=>fin _ _ ?_ ?_,fun c1=>⟨fun c2=>fin _ _ ?_ ?_,fun c2=>⟨fun c3=>fin _ _ ?_ ?_,fun c3=>fin _ _ ?_ ?_⟩⟩⟩
  ·simp[c1]
  ·simp[c1]
  ·simp[c1,c2]
  ·simp[c1,c2]
  ·simp[c1,c2,c3]
  ·simp[c1,c2,c3]
  ·simp[c1,c2,c3]
  ·simp[c1,c2,c3])
def L_takeR:Lay:={ slots:=[(0,.ptr 1 0),(1,.agg jE)],boxes:=[(1,gJ)] }
theorem T_takeR(e0 e1 e2 e3 e4 e5:Int)(o j r v u:Int)(d:List E4)(f:List (List Int))(g:Int)(c:List Pm)(t:Int):jG (P:=P) [] (zH []) Tryz.f140 L_takeR true ((),(e0,e1,e2,e3,e4,e5),o,j,r,v,u,d,f,g,c,t,()) =
 Tree.cond (e2 != v) (.leaf { res:=.int .i64 10,boxes:=[[.int .i64 o,.int .i64 j,.int .i64 r,.int .i64 v,.int .i64 u,.own 50,.sl tIs f,.int .i64 g,.own 51,.int .i64 t]],news:=[.row 47 tEl d,.row 49 tPm c]++[] }) (.leaf { res:=.int .i64 0,boxes:=[[.int .i64 o,.int .i64 j,.int .i64 e2,.int .i64 (-1:Int),.int .i64 u,.own 50,.sl tIs f,.int .i64 g,.own 51,.int .i64 t]],news:=[.row 47 tEl d,.row 49 tPm c]++[] }):=by kernel_rfl
def c_takeR:MC P:=MC.of (α:=AuS1) 140 L_takeR (fun x=>x) (fun x=>x) (fun _=>rfl)
 (fun _=>none)
 (fun(_,e,o,j,r,v,u,d,f,g,c,t,_)=>⟨.int .i64 (gO (o,j,r,v,u,(d,f,g),c,t) e),[zV (o,j,fK (o,j,r,v,u,(d,f,g),c,t) e,fJ (o,j,r,v,u,(d,f,g),c,t) e,u,(d,f,g),c,t)],zW (o,j,fK (o,j,r,v,u,(d,f,g),c,t) e,fJ (o,j,r,v,u,(d,f,g),c,t) e,u,(d,f,g),c,t)⟩) (by kernel_rfl) (by kernel_rfl) (by kernel_rfl) (by
  rintro⟨⟨⟩,⟨e0,e1,e2,e3,e4,e5⟩,o,j,r,v,u,d,f,g,c,t,⟨⟩⟩ hp
  refine yG hm (own:=true) (by kernel_rfl) (by kernel_rfl) (by kernel_rfl) (T_takeR e0 e1 e2 e3 e4 e5 o j r v u d f g c t) trivial ?_
  have fin:∀(m n k:Int),gO (o,j,r,v,u,(d,f,g),c,t) (e0,e1,e2,e3,e4,e5)=m->fK (o,j,r,v,u,(d,f,g),c,t) (e0,e1,e2,e3,e4,e5)=n->fJ (o,j,r,v,u,(d,f,g),c,t) (e0,e1,e2,e3,e4,e5)=k->(⟨.int .i64 m,[zV (o,j,n,k,u,(d,f,g),c,t)],zW (o,j,n,k,u,(d,f,g),c,t)⟩:MOut)=⟨.int .i64 (gO (o,j,r,v,u,(d,f,g),c,t) (e0,e1,e2,e3,e4,e5)),[zV (o,j,fK (o,j,r,v,u,(d,f,g),c,t) (e0,e1,e2,e3,e4,e5),fJ (o,j,r,v,u,(d,f,g),c,t) (e0,e1,e2,e3,e4,e5),u,(d,f,g),c,t)],zW (o,j,fK (o,j,r,v,u,(d,f,g),c,t) (e0,e1,e2,e3,e4,e5),fJ (o,j,r,v,u,(d,f,g),c,t) (e0,e1,e2,e3,e4,e5),u,(d,f,g),c,t)⟩:=fun m n k h1 h2 h3=>by rw[h1,h2,h3]
  unfold fK fJ gO at fin
  dsimp only at fin
  refine⟨fun c1=>fin _ _ _ ?_ ?_ ?_,fun c1=>fin _ _ _ ?_ ?_ ?_⟩
  all_goals simp[c1])
end
end Go.MB
