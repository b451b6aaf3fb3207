/- Logs: rows of a log, as the program reads them. (Printed by tools/mkE.py.) -/
import Derived.Test.YtfhomgggbhjglaaGreatMeA
namespace Go.MB
open Go Go.Sx Go.Proofs
set_option linter.unusedVariables false
set_option linter.unusedSimpArgs false
noncomputable section
def elR(r:Rd):E4×Rd:=(((zA r).1,(zA (zA r).2).1,(zA (zA (zA r).2).2).1,(zA (zA (zA (zA r).2).2).2).1),(zA (zA (zA (zA r).2).2).2).2)
def enR(r:Rd):zP×Rd:=(((zA r).1,(zA (zA r).2).1,(zA (zA (zA r).2).2).1,(zA (zA (zA (zA r).2).2).2).1,(zA (zA (zA (zA (zA r).2).2).2).2).1,(zA (zA (zA (zA (zA (zA r).2).2).2).2).2).1),(zA (zA (zA (zA (zA (zA r).2).2).2).2).2).2)
def pmR(r:Rd):Pm×Rd:=(((zA r).1,(zA (zA r).2).1,(zA (zA (zA r).2).2).1,(zA (zA (zA (zA r).2).2).2).1==1),((zA (zA (zA (zA r).2).2).2).2.1,(zA (zA (zA (zA r).2).2).2).2.2||((zA (zA (zA (zA r).2).2).2).1 != 0&&(zA (zA (zA (zA r).2).2).2).1 != 1)))
def rowsS{α:Type}(rd:Rd->α×Rd):Nat->Rd->List α×Rd
 |0,r=>([],r)
 |n+1,r=>((rd r).1::(rowsS rd n (rd r).2).1,(rowsS rd n (rd r).2).2)
def rwS{α:Type}(rd:Rd->α×Rd) (most:Int) (r:Rd):List α×Rd:=if wi (zA r).1 0 most=false then ([],((zA r).2.1,true)) else rowsS rd (zA r).1.toNat (zA r).2
def zO{α:Type}(rd:Rd->α×Rd) (acc:List α) (n:Nat) (r:Rd):List α×Rd:=(acc++(rowsS rd n r).1,(rowsS rd n r).2)
theorem rowsA_zero{α:Type}(rd:Rd->α×Rd) (acc:List α) (r:Rd):zO rd acc 0 r=(acc,r):=by
 unfold zO
 rw[rowsS,List.append_nil]
theorem rowsA_step{α:Type}(rd:Rd->α×Rd) (acc:List α) (n:Nat) (r:Rd):zO rd acc (n+1) r=zO rd (acc++[(rd r).1]) n (rd r).2:=by
 unfold zO
 rw[rowsS,List.append_assoc]
 rfl
def rowsR(most:Int)(r:Rd):List Int×Rd:=rwS zA most r
def L_rdEl:Lay:={ slots:=[(0,.ptr 1 0)],boxes:=[(1,[.ptr 2 0]),(2,[.val .str,.val .bool])] }
theorem T_rdEl(s:ByteArray)(bad:Bool):jF (P:=P) [c_next.gc,c_number.gc] (zI []) Tryz.f71 L_rdEl true ((),(),s,bad,()) =
 Tree.leaf { res:=.agg [.int .i64 (zA (s,bad)).1,.int .i64 (zA (zA (s,bad)).2).1,.int .i64 (zA (zA (zA (s,bad)).2).2).1,.int .i64 (zA (zA (zA (zA (s,bad)).2).2).2).1],boxes:=[[SV.ptr 2 0],[SV.str (zA (zA (zA (zA (s,bad)).2).2).2).2.1,.bool (zA (zA (zA (zA (s,bad)).2).2).2).2.2]] }:=by kernel_rfl
abbrev AeB1:Type:=Unit×Unit×ByteArray×Bool×Unit
def c_rdEl:MC P:=MC.of (α:=AeB1) 71 L_rdEl (fun x=>x) (fun x=>x) (fun _=>rfl)
 (fun _=>none)
 (fun(_,_,s,bad,_)=>⟨.agg [.int .i64 (elR (s,bad)).1.1,.int .i64 (elR (s,bad)).1.2.1,.int .i64 (elR (s,bad)).1.2.2.1,.int .i64 (elR (s,bad)).1.2.2.2],[[.ptr 2 0],[.str (elR (s,bad)).2.1,.bool (elR (s,bad)).2.2]],[]⟩) (by kernel_rfl) (by kernel_rfl) (by kernel_rfl) (by
  rintro⟨⟨⟩,⟨⟩,s,bad,⟨⟩⟩ hp
  refine m_of hm (own:=true) (by kernel_rfl) (by kernel_rfl) (by kernel_rfl) (T_rdEl s bad) trivial ?_
  unfold elR
  dsimp only
  generalize zA (s,bad)=z1
  obtain⟨d1,s1,b1⟩:=z1
  dsimp only
  generalize zA (s1,b1)=z2
  obtain⟨d2,s2,b2⟩:=z2
  dsimp only
  generalize zA (s2,b2)=z3
  obtain⟨d3,s3,b3⟩:=z3
  dsimp only
  generalize zA (s3,b3)=z4
  obtain⟨d4,s4,b4⟩:=z4
  dsimp only
  exact rfl)
def L_rwElL:Lay:={ slots:=[(2,.clo 71 [(1,0)]),(8,.row 47 tEl),(18,.val tI),(19,.val tI)],boxes:=[(1,[.ptr 2 0]),(2,[.val .str,.val .bool])] }
def L_rwElL_0:Lay:={ slots:=[(8,.row 47 tEl)],boxes:=[(1,[.ptr 2 0]),(2,[.val .str,.val .bool])] }
def X_rwElL:Exit->St->Option Lay
 |.exit 0,_=>some L_rwElL_0
 |_,_=>none
abbrev C_rwElL:Code:=zQ (zJ Tryz.f70) 0
abbrev AeB5:Type:=Unit×List E4×Int×Int×Unit×ByteArray×Bool×Unit
theorem B_rwElL(acc:List E4)(n i:Int)(s:ByteArray)(bad:Bool):zG (P:=P) [c_rdEl.gc] (zI []) [] 28 (usd noU [1,2]) (zN C_rwElL) L_rwElL X_rwElL (α:=AeB5) (fun x=>x) (fun x=>x) ((),acc,n,i,(),s,bad,()) =
 Tree.cond (decide (i<n)) (.need ((acc.length+List.length [(elR (s,bad)).1])*32<=140737488355328) (.leaf (Sum.inl ((),acc++[(elR (s,bad)).1],n,IntKind.i64.wrap (i+1),(),(elR (s,bad)).2.1,(elR (s,bad)).2.2,())))) (.leaf (Sum.inr (Exit.exit 0,Lay.st L_rwElL_0 (usd noU [1,2]) (acc,(),s,bad,())))):=by kernel_rfl
def inv_rwElL:AeB5->Prop:=fun(_,acc,n,i,_)=>0<=i/\i<=n/\n<=1000/\(acc.length:Int)<=i
def O_rwElL:AeB5->Tree (Exit×St):=fun(_,acc,n,i,_,s,bad,_)=>.leaf (.exit 0,L_rwElL_0.st (usd noU [1,2]) ((zO elR acc (n - i).toNat (s,bad)).1,(),(zO elR acc (n - i).toNat (s,bad)).2.1,(zO elR acc (n - i).toNat (s,bad)).2.2,()))
def R_rwElL:jA:=zY 28 L_rwElL (fun x=>x) inv_rwElL O_rwElL
theorem K_rwElL:zL P [] 28 none (usd noU [1,2]) C_rwElL R_rwElL:=by
 refine zM hm (cx:=[c_rdEl.gc]) [] (xl:=X_rwElL) (α:=AeB5) (fun x=>x) (fun(_,_,n,i,_)=>(n - i).toNat) (fun _=>rfl) (by kernel_rfl) (by kernel_rfl) ?_ (by kernel_rfl) trivial ?_
 ·intro e S L' h
  unfold X_rwElL at h
  split at h<;>cases h<;>kernel_rfl
 ·rintro⟨⟨⟩,acc,n,i,⟨⟩,s,bad,⟨⟩⟩ hinv Q hQ
  refine zF (B_rwElL acc n i s bad) ?_
  obtain⟨h0,h1,h2,h3⟩:=hinv
  have hQ' : Q (.exit 0,L_rwElL_0.st (usd noU [1,2]) ((zO elR acc (n - i).toNat (s,bad)).1,(),(zO elR acc (n - i).toNat (s,bad)).2.1,(zO elR acc (n - i).toNat (s,bad)).2.2,())):=hQ
  rw[jK (n:=i+1) (by omega) (by omega)]
  refine⟨fun c1=>?_,fun c1=>?_⟩
  ·have c1:=dcT c1
   rw[show (n - i).toNat=(n - (i+1)).toNat+1 by omega,rowsA_step] at hQ'
   generalize elR (s,bad)=z at *
   obtain⟨⟨d0,d1,d2,d3⟩,s1,b1⟩:=z
   dsimp only at *
   exact⟨by simp only[List.length_cons,List.length_nil];omega,⟨⟨by omega,by omega,h2,by simp only[List.length_append,List.length_cons,List.length_nil];omega⟩,by show (n - (i+1)).toNat<(n - i).toNat;omega⟩,hQ'⟩
  ·have c1:=dcF c1
   rw[show (n - i).toNat=0 by omega,rowsA_zero] at hQ'
   exact hQ'
def L_rwEl:Lay:={ slots:=[(0,.ptr 2 0),(1,.val tI),(2,.clo 71 [(1,0)])],boxes:=[(1,[.ptr 2 0]),(2,[.val .str,.val .bool])] }
theorem T_rwEl(m:Int)(s:ByteArray)(bad:Bool):jF (P:=P) [c_next.gc,c_within.gc] (zI [(0,R_rwElL)]) Tryz.f70 L_rwEl false ((),m,(),(),s,bad,()) =
 Tree.cond (!wi (zA (s,bad)).1 0 m) (.leaf { res:=.nils,boxes:=[[SV.ptr 2 0],[SV.str (zA (s,bad)).2.1,.bool true]] }) (.need (inv_rwElL ((),[],(zA (s,bad)).1,0,(),(zA (s,bad)).2.1,(zA (s,bad)).2.2,())) (.leaf { res:=.sl tEl (zO elR [] (Int.toNat ((zA (s,bad)).1 - 0)) (zA (s,bad)).2).1,boxes:=[[SV.ptr 2 0],[SV.str (zO elR [] (Int.toNat ((zA (s,bad)).1 - 0)) (zA (s,bad)).2).2.1,.bool (zO elR [] (Int.toNat ((zA (s,bad)).1 - 0)) (zA (s,bad)).2).2.2]] })):=by kernel_rfl
def c_rwEl:MC P:=MC.of (α:=Unit×Int×AeB1) 70 L_rwEl (fun x=>x) (fun x=>x) (fun _=>rfl)
 (fun(_,m,_)=>some (m<=1000))
 (fun(_,m,_,_,s,bad,_)=>⟨.sl tEl (rwS elR m (s,bad)).1,[[.ptr 2 0],[.str (rwS elR m (s,bad)).2.1,.bool (rwS elR m (s,bad)).2.2]],[]⟩) (by kernel_rfl) (by kernel_rfl) (by kernel_rfl) (by
  rintro⟨⟨⟩,m,⟨⟩,⟨⟩,s,bad,⟨⟩⟩ hp
  refine m_le hm (own:=false) (by kernel_rfl) (by kernel_rfl) (by kernel_rfl) (T_rwEl m s bad) ⟨K_rwElL,trivial⟩ ?_
  have hp' : m<=1000:=hp
  unfold rwS
  dsimp only
  generalize zA (s,bad)=z at *
  obtain⟨d,s1,b1⟩:=z
  dsimp only at *
  refine⟨fun c1=>?_,fun c1=>⟨?_,?_⟩⟩
  ·have c1:wi d 0 m=false:=by simpa using c1
   rw[if_pos c1]
   exact⟨rfl,rfl,rfl⟩
  ·have c1:wi d 0 m=true:=by simpa using c1
   obtain⟨d0,d1⟩:=wi_iff.1 c1
   exact⟨by decide,d0,by omega,by decide⟩
  ·have c1:wi d 0 m=true:=by simpa using c1
   rw[if_neg (by rw[c1];decide),Int.sub_zero]
   have e:zO elR [] d.toNat (s1,b1)=rowsS elR d.toNat (s1,b1):=by unfold zO;rw[List.nil_append]
   rw[e]
   exact⟨rfl,rfl,rfl⟩)
def L_rwIL:Lay:={ slots:=[(2,.clo (4294967296+69) [(1,0)]),(8,.row 3 tI),(18,.val tI),(19,.val tI)],boxes:=[(1,[.val .str,.val .bool])] }
def L_rwIL_0:Lay:={ slots:=[(8,.row 3 tI)],boxes:=[(1,[.val .str,.val .bool])] }
def X_rwIL:Exit->St->Option Lay
 |.exit 0,_=>some L_rwIL_0
 |_,_=>none
abbrev C_rwIL:Code:=zQ (zJ Tryz.f74) 0
abbrev AeB6:Type:=Unit×List Int×Int×Int×ByteArray×Bool×Unit
theorem B_rwIL(acc:List Int)(n i:Int)(s:ByteArray)(bad:Bool):zG (P:=P) [c_number.gc] (zI []) [] 28 (usd noU [1]) (zN C_rwIL) L_rwIL X_rwIL (α:=AeB6) (fun x=>x) (fun x=>x) ((),acc,n,i,s,bad,()) =
 Tree.cond (decide (i<n)) (.need ((acc.length+List.length [(zA (s,bad)).1])*8<=140737488355328) (.leaf (Sum.inl ((),acc++[(zA (s,bad)).1],n,IntKind.i64.wrap (i+1),(zA (s,bad)).2.1,(zA (s,bad)).2.2,())))) (.leaf (Sum.inr (Exit.exit 0,Lay.st L_rwIL_0 (usd noU [1]) (acc,s,bad,())))):=by kernel_rfl
def inv_rwIL:AeB6->Prop:=fun(_,acc,n,i,_)=>0<=i/\i<=n/\n<=1000/\(acc.length:Int)<=i
def O_rwIL:AeB6->Tree (Exit×St):=fun(_,acc,n,i,s,bad,_)=>.leaf (.exit 0,L_rwIL_0.st (usd noU [1]) ((zO zA acc (n - i).toNat (s,bad)).1,(zO zA acc (n - i).toNat (s,bad)).2.1,(zO zA acc (n - i).toNat (s,bad)).2.2,()))
def R_rwIL:jA:=zY 28 L_rwIL (fun x=>x) inv_rwIL O_rwIL
theorem K_rwIL:zL P [] 28 none (usd noU [1]) C_rwIL R_rwIL:=by
 refine zM hm (cx:=[c_number.gc]) [] (xl:=X_rwIL) (α:=AeB6) (fun x=>x) (fun(_,_,n,i,_)=>(n - i).toNat) (fun _=>rfl) (by kernel_rfl) (by kernel_rfl) ?_ (by kernel_rfl) trivial ?_
 ·intro e S L' h
  unfold X_rwIL at h
  split at h<;>cases h<;>kernel_rfl
 ·rintro⟨⟨⟩,acc,n,i,s,bad,⟨⟩⟩ hinv Q hQ
  refine zF (B_rwIL acc n i s bad) ?_
  obtain⟨h0,h1,h2,h3⟩:=hinv
  have hQ' : Q (.exit 0,L_rwIL_0.st (usd noU [1]) ((zO zA acc (n - i).toNat (s,bad)).1,(zO zA acc (n - i).toNat (s,bad)).2.1,(zO zA acc (n - i).toNat (s,bad)).2.2,())):=hQ
  rw[jK (n:=i+1) (by omega) (by omega)]
  refine⟨fun c1=>?_,fun c1=>?_⟩
  ·have c1:=dcT c1
   rw[show (n - i).toNat=(n - (i+1)).toNat+1 by omega,rowsA_step] at hQ'
   generalize zA (s,bad)=z at *
   obtain⟨d0,s1,b1⟩:=z
   dsimp only at *
   exact⟨by simp only[List.length_cons,List.length_nil];omega,⟨⟨by omega,by omega,h2,by simp only[List.length_append,List.length_cons,List.length_nil];omega⟩,by show (n - (i+1)).toNat<(n - i).toNat;omega⟩,hQ'⟩
  ·have c1:=dcF c1
   rw[show (n - i).toNat=0 by omega,rowsA_zero] at hQ'
   exact hQ'
def L_rwI:Lay:={ slots:=[(0,.ptr 1 0),(1,.val tI),(2,.clo (4294967296+69) [(1,0)])],boxes:=[(1,[.val .str,.val .bool])] }
theorem T_rwI(m:Int)(s:ByteArray)(bad:Bool):jF (P:=P) [c_next.gc,c_within.gc] (zI [(0,R_rwIL)]) Tryz.f74 L_rwI false ((),m,(),s,bad,()) =
 Tree.cond (!wi (zA (s,bad)).1 0 m) (.leaf { res:=.nils,boxes:=[[SV.str (zA (s,bad)).2.1,.bool true]] }) (.need (inv_rwIL ((),[],(zA (s,bad)).1,0,(zA (s,bad)).2.1,(zA (s,bad)).2.2,())) (.leaf { res:=.sl tI (zO zA [] (Int.toNat ((zA (s,bad)).1 - 0)) (zA (s,bad)).2).1,boxes:=[[SV.str (zO zA [] (Int.toNat ((zA (s,bad)).1 - 0)) (zA (s,bad)).2).2.1,.bool (zO zA [] (Int.toNat ((zA (s,bad)).1 - 0)) (zA (s,bad)).2).2.2]] })):=by kernel_rfl
def c_rwI:MC P:=MC.of (α:=Unit×Int×Unit×ByteArray×Bool×Unit) 74 L_rwI (fun x=>x) (fun x=>x) (fun _=>rfl)
 (fun(_,m,_)=>some (m<=1000))
 (fun(_,m,_,s,bad,_)=>⟨.sl tI (rwS zA m (s,bad)).1,[[.str (rwS zA m (s,bad)).2.1,.bool (rwS zA m (s,bad)).2.2]],[]⟩) (by kernel_rfl) (by kernel_rfl) (by kernel_rfl) (by
  rintro⟨⟨⟩,m,⟨⟩,s,bad,⟨⟩⟩ hp
  refine m_le hm (own:=false) (by kernel_rfl) (by kernel_rfl) (by kernel_rfl) (T_rwI m s bad) ⟨K_rwIL,trivial⟩ ?_
  have hp' : m<=1000:=hp
  unfold rwS
  dsimp only
  generalize zA (s,bad)=z at *
  obtain⟨d,s1,b1⟩:=z
  dsimp only at *
  refine⟨fun c1=>?_,fun c1=>⟨?_,?_⟩⟩
  ·have c1:wi d 0 m=false:=by simpa using c1
   rw[if_pos c1]
   exact⟨rfl,rfl,rfl⟩
  ·have c1:wi d 0 m=true:=by simpa using c1
   obtain⟨d0,d1⟩:=wi_iff.1 c1
   exact⟨by decide,d0,by omega,by decide⟩
  ·have c1:wi d 0 m=true:=by simpa using c1
   rw[if_neg (by rw[c1];decide),Int.sub_zero]
   have e:zO zA [] d.toNat (s1,b1)=rowsS zA d.toNat (s1,b1):=by unfold zO;rw[List.nil_append]
   rw[e]
   exact⟨rfl,rfl,rfl⟩)
def L_rdIs:Lay:={ slots:=[(0,.ptr 1 0)],boxes:=[(1,[.ptr 2 0]),(2,[.val .str,.val .bool])] }
theorem T_rdIs(s:ByteArray)(bad:Bool):jF (P:=P) [c_rwI.gc] (zI []) Tryz.f73 L_rdIs true ((),(),s,bad,()) =
 Tree.need ((10:Int)<=1000) (.leaf { res:=.sl tI (rwS zA 10 (s,bad)).1,boxes:=[[SV.ptr 2 0],[SV.str (rwS zA 10 (s,bad)).2.1,.bool (rwS zA 10 (s,bad)).2.2]] }):=by kernel_rfl
def c_rdIs:MC P:=MC.of (α:=AeB1) 73 L_rdIs (fun x=>x) (fun x=>x) (fun _=>rfl)
 (fun _=>none)
 (fun(_,_,s,bad,_)=>⟨.sl tI (rowsR 10 (s,bad)).1,[[.ptr 2 0],[.str ((rowsR 10) (s,bad)).2.1,.bool ((rowsR 10) (s,bad)).2.2]],[]⟩) (by kernel_rfl) (by kernel_rfl) (by kernel_rfl) (by
  rintro⟨⟨⟩,⟨⟩,s,bad,⟨⟩⟩ hp
  refine m_of hm (own:=true) (by kernel_rfl) (by kernel_rfl) (by kernel_rfl) (T_rdIs s bad) trivial ?_
  exact⟨by decide,rfl⟩)
def L_rwIsL:Lay:={ slots:=[(2,.clo 73 [(1,0)]),(8,.row 31 tIs),(18,.val tI),(19,.val tI)],boxes:=[(1,[.ptr 2 0]),(2,[.val .str,.val .bool])] }
def L_rwIsL_0:Lay:={ slots:=[(8,.row 31 tIs)],boxes:=[(1,[.ptr 2 0]),(2,[.val .str,.val .bool])] }
def X_rwIsL:Exit->St->Option Lay
 |.exit 0,_=>some L_rwIsL_0
 |_,_=>none
abbrev C_rwIsL:Code:=zQ (zJ Tryz.f72) 0
abbrev AeB2:Type:=Unit×List (List Int)×Int×Int×Unit×ByteArray×Bool×Unit
theorem B_rwIsL(acc:List (List Int))(n i:Int)(s:ByteArray)(bad:Bool):zG (P:=P) [c_rdIs.gc] (zI []) [] 28 (usd noU [1,2]) (zN C_rwIsL) L_rwIsL X_rwIsL (α:=AeB2) (fun x=>x) (fun x=>x) ((),acc,n,i,(),s,bad,()) =
 Tree.cond (decide (i<n)) (.need ((acc.length+List.length [(rowsR 10 (s,bad)).1])*24<=140737488355328) (.leaf (Sum.inl ((),acc++[(rowsR 10 (s,bad)).1],n,IntKind.i64.wrap (i+1),(),(rowsR 10 (s,bad)).2.1,(rowsR 10 (s,bad)).2.2,())))) (.leaf (Sum.inr (Exit.exit 0,Lay.st L_rwIsL_0 (usd noU [1,2]) (acc,(),s,bad,())))):=by kernel_rfl
def inv_rwIsL:AeB2->Prop:=fun(_,acc,n,i,_)=>0<=i/\i<=n/\n<=1000/\(acc.length:Int)<=i
def O_rwIsL:AeB2->Tree (Exit×St):=fun(_,acc,n,i,_,s,bad,_)=>.leaf (.exit 0,L_rwIsL_0.st (usd noU [1,2]) ((zO (rowsR 10) acc (n - i).toNat (s,bad)).1,(),(zO (rowsR 10) acc (n - i).toNat (s,bad)).2.1,(zO (rowsR 10) acc (n - i).toNat (s,bad)).2.2,()))
def R_rwIsL:jA:=zY 28 L_rwIsL (fun x=>x) inv_rwIsL O_rwIsL
theorem K_rwIsL:zL P [] 28 none (usd noU [1,2]) C_rwIsL R_rwIsL:=by
 refine zM hm (cx:=[c_rdIs.gc]) [] (xl:=X_rwIsL) (α:=AeB2) (fun x=>x) (fun(_,_,n,i,_)=>(n - i).toNat) (fun _=>rfl) (by kernel_rfl) (by kernel_rfl) ?_ (by kernel_rfl) trivial ?_
 ·intro e S L' h
  unfold X_rwIsL at h
  split at h<;>cases h<;>kernel_rfl
 ·rintro⟨⟨⟩,acc,n,i,⟨⟩,s,bad,⟨⟩⟩ hinv Q hQ
  refine zF (B_rwIsL acc n i s bad) ?_
  obtain⟨h0,h1,h2,h3⟩:=hinv
  have hQ' : Q (.exit 0,L_rwIsL_0.st (usd noU [1,2]) ((zO (rowsR 10) acc (n - i).toNat (s,bad)).1,(),(zO (rowsR 10) acc (n - i).toNat (s,bad)).2.1,(zO (rowsR 10) acc (n - i).toNat (s,bad)).2.2,())):=hQ
  rw[jK (n:=i+1) (by omega) (by omega)]
  refine⟨fun c1=>?_,fun c1=>?_⟩
  ·have c1:=dcT c1
   rw[show (n - i).toNat=(n - (i+1)).toNat+1 by omega,rowsA_step] at hQ'
   generalize (rowsR 10) (s,bad)=z at *
   obtain⟨d0,s1,b1⟩:=z
   dsimp only at *
   exact⟨by simp only[List.length_cons,List.length_nil];omega,⟨⟨by omega,by omega,h2,by simp only[List.length_append,List.length_cons,List.length_nil];omega⟩,by show (n - (i+1)).toNat<(n - i).toNat;omega⟩,hQ'⟩
  ·have c1:=dcF c1
   rw[show (n - i).toNat=0 by omega,rowsA_zero] at hQ'
   exact hQ'
def L_rwIs:Lay:={ slots:=[(0,.ptr 2 0),(1,.val tI),(2,.clo 73 [(1,0)])],boxes:=[(1,[.ptr 2 0]),(2,[.val .str,.val .bool])] }
theorem T_rwIs(m:Int)(s:ByteArray)(bad:Bool):jF (P:=P) [c_next.gc,c_within.gc] (zI [(0,R_rwIsL)]) Tryz.f72 L_rwIs false ((),m,(),(),s,bad,()) =
 Tree.cond (!wi (zA (s,bad)).1 0 m) (.leaf { res:=.nils,boxes:=[[SV.ptr 2 0],[SV.str (zA (s,bad)).2.1,.bool true]] }) (.need (inv_rwIsL ((),[],(zA (s,bad)).1,0,(),(zA (s,bad)).2.1,(zA (s,bad)).2.2,())) (.leaf { res:=.sl tIs (zO (rowsR 10) [] (Int.toNat ((zA (s,bad)).1 - 0)) (zA (s,bad)).2).1,boxes:=[[SV.ptr 2 0],[SV.str (zO (rowsR 10) [] (Int.toNat ((zA (s,bad)).1 - 0)) (zA (s,bad)).2).2.1,.bool (zO (rowsR 10) [] (Int.toNat ((zA (s,bad)).1 - 0)) (zA (s,bad)).2).2.2]] })):=by kernel_rfl
def c_rwIs:MC P:=MC.of (α:=Unit×Int×AeB1) 72 L_rwIs (fun x=>x) (fun x=>x) (fun _=>rfl)
 (fun(_,m,_)=>some (m<=1000))
 (fun(_,m,_,_,s,bad,_)=>⟨.sl tIs (rwS (rowsR 10) m (s,bad)).1,[[.ptr 2 0],[.str (rwS (rowsR 10) m (s,bad)).2.1,.bool (rwS (rowsR 10) m (s,bad)).2.2]],[]⟩) (by kernel_rfl) (by kernel_rfl) (by kernel_rfl) (by
  rintro⟨⟨⟩,m,⟨⟩,⟨⟩,s,bad,⟨⟩⟩ hp
  refine m_le hm (own:=false) (by kernel_rfl) (by kernel_rfl) (by kernel_rfl) (T_rwIs m s bad) ⟨K_rwIsL,trivial⟩ ?_
  have hp' : m<=1000:=hp
  unfold rwS
  dsimp only
  generalize zA (s,bad)=z at *
  obtain⟨d,s1,b1⟩:=z
  dsimp only at *
  refine⟨fun c1=>?_,fun c1=>⟨?_,?_⟩⟩
  ·have c1:wi d 0 m=false:=by simpa using c1
   rw[if_pos c1]
   exact⟨rfl,rfl,rfl⟩
  ·have c1:wi d 0 m=true:=by simpa using c1
   obtain⟨d0,d1⟩:=wi_iff.1 c1
   exact⟨by decide,d0,by omega,by decide⟩
  ·have c1:wi d 0 m=true:=by simpa using c1
   rw[if_neg (by rw[c1];decide),Int.sub_zero]
   have e:zO (rowsR 10) [] d.toNat (s1,b1)=rowsS (rowsR 10) d.toNat (s1,b1):=by unfold zO;rw[List.nil_append]
   rw[e]
   exact⟨rfl,rfl,rfl⟩)
def L_rdPm:Lay:={ slots:=[(0,.ptr 1 0)],boxes:=[(1,[.ptr 2 0]),(2,[.val .str,.val .bool])] }
theorem T_rdPm(s:ByteArray)(bad:Bool):jF (P:=P) [c_next.gc,c_number.gc] (zI []) Tryz.f76 L_rdPm true ((),(),s,bad,()) =
 Tree.cond (zA (zA (zA (zA (s,bad)).2).2).2).2.2 (.leaf { res:=.agg [.int .i64 (zA (s,bad)).1,.int .i64 (zA (zA (s,bad)).2).1,.int .i64 (zA (zA (zA (s,bad)).2).2).1,.bool ((zA (zA (zA (zA (s,bad)).2).2).2).1==1)],boxes:=[[SV.ptr 2 0],[SV.str (zA (zA (zA (zA (s,bad)).2).2).2).2.1,.bool true]] }) (.cond ((zA (zA (zA (zA (s,bad)).2).2).2).1 != 0) (.leaf { res:=.agg [.int .i64 (zA (s,bad)).1,.int .i64 (zA (zA (s,bad)).2).1,.int .i64 (zA (zA (zA (s,bad)).2).2).1,.bool ((zA (zA (zA (zA (s,bad)).2).2).2).1==1)],boxes:=[[SV.ptr 2 0],[SV.str (zA (zA (zA (zA (s,bad)).2).2).2).2.1,.bool ((zA (zA (zA (zA (s,bad)).2).2).2).1 != 1)]] }) (.leaf { res:=.agg [.int .i64 (zA (s,bad)).1,.int .i64 (zA (zA (s,bad)).2).1,.int .i64 (zA (zA (zA (s,bad)).2).2).1,.bool ((zA (zA (zA (zA (s,bad)).2).2).2).1==1)],boxes:=[[SV.ptr 2 0],[SV.str (zA (zA (zA (zA (s,bad)).2).2).2).2.1,.bool false]] })):=by kernel_rfl
def c_rdPm:MC P:=MC.of (α:=AeB1) 76 L_rdPm (fun x=>x) (fun x=>x) (fun _=>rfl)
 (fun _=>none)
 (fun(_,_,s,bad,_)=>⟨.agg [.int .i64 (pmR (s,bad)).1.1,.int .i64 (pmR (s,bad)).1.2.1,.int .i64 (pmR (s,bad)).1.2.2.1,.bool (pmR (s,bad)).1.2.2.2],[[.ptr 2 0],[.str (pmR (s,bad)).2.1,.bool (pmR (s,bad)).2.2]],[]⟩) (by kernel_rfl) (by kernel_rfl) (by kernel_rfl) (by
  rintro⟨⟨⟩,⟨⟩,s,bad,⟨⟩⟩ hp
  refine m_of hm (own:=true) (by kernel_rfl) (by kernel_rfl) (by kernel_rfl) (T_rdPm s bad) trivial ?_
  unfold pmR
  dsimp only
  generalize zA (s,bad)=z1
  obtain⟨d1,s1,b1⟩:=z1
  dsimp only
  generalize zA (s1,b1)=z2
  obtain⟨d2,s2,b2⟩:=z2
  dsimp only
  generalize zA (s2,b2)=z3
  obtain⟨d3,s3,b3⟩:=z3
  dsimp only
  generalize zA (s3,b3)=z4
  obtain⟨d4,s4,b4⟩:=z4
  dsimp only
  refine⟨fun c1=>?_,fun c1=>⟨fun c2=>?_,fun c2=>?_⟩⟩
  ·rw[show b4=true from c1,Bool.true_or];exact rfl
  ·rw[show b4=false from c1,show (d4 != 0)=true from c2,Bool.false_or,Bool.true_and];exact rfl
  ·rw[show b4=false from c1,show (d4 != 0)=false from c2,Bool.false_or,Bool.false_and];exact rfl)
def L_rwPmL:Lay:={ slots:=[(2,.clo 76 [(1,0)]),(8,.row 49 tPm),(18,.val tI),(19,.val tI)],boxes:=[(1,[.ptr 2 0]),(2,[.val .str,.val .bool])] }
def L_rwPmL_0:Lay:={ slots:=[(8,.row 49 tPm)],boxes:=[(1,[.ptr 2 0]),(2,[.val .str,.val .bool])] }
def X_rwPmL:Exit->St->Option Lay
 |.exit 0,_=>some L_rwPmL_0
 |_,_=>none
abbrev C_rwPmL:Code:=zQ (zJ Tryz.f75) 0
abbrev AeB4:Type:=Unit×List Pm×Int×Int×Unit×ByteArray×Bool×Unit
theorem B_rwPmL(acc:List Pm)(n i:Int)(s:ByteArray)(bad:Bool):zG (P:=P) [c_rdPm.gc] (zI []) [] 28 (usd noU [1,2]) (zN C_rwPmL) L_rwPmL X_rwPmL (α:=AeB4) (fun x=>x) (fun x=>x) ((),acc,n,i,(),s,bad,()) =
 Tree.cond (decide (i<n)) (.need ((acc.length+List.length [(pmR (s,bad)).1])*32<=140737488355328) (.leaf (Sum.inl ((),acc++[(pmR (s,bad)).1],n,IntKind.i64.wrap (i+1),(),(pmR (s,bad)).2.1,(pmR (s,bad)).2.2,())))) (.leaf (Sum.inr (Exit.exit 0,Lay.st L_rwPmL_0 (usd noU [1,2]) (acc,(),s,bad,())))):=by kernel_rfl
def inv_rwPmL:AeB4->Prop:=fun(_,acc,n,i,_)=>0<=i/\i<=n/\n<=1000/\(acc.length:Int)<=i
def O_rwPmL:AeB4->Tree (Exit×St):=fun(_,acc,n,i,_,s,bad,_)=>.leaf (.exit 0,L_rwPmL_0.st (usd noU [1,2]) ((zO pmR acc (n - i).toNat (s,bad)).1,(),(zO pmR acc (n - i).toNat (s,bad)).2.1,(zO pmR acc (n - i).toNat (s,bad)).2.2,()))
def R_rwPmL:jA:=zY 28 L_rwPmL (fun x=>x) inv_rwPmL O_rwPmL
theorem K_rwPmL:zL P [] 28 none (usd noU [1,2]) C_rwPmL R_rwPmL:=by
 refine zM hm (cx:=[c_rdPm.gc]) [] (xl:=X_rwPmL) (α:=AeB4) (fun x=>x) (fun(_,_,n,i,_)=>(n - i).toNat) (fun _=>rfl) (by kernel_rfl) (by kernel_rfl) ?_ (by kernel_rfl) trivial ?_
 ·intro e S L' h
  unfold X_rwPmL at h
  split at h<;>cases h<;>kernel_rfl
 ·rintro⟨⟨⟩,acc,n,i,⟨⟩,s,bad,⟨⟩⟩ hinv Q hQ
  refine zF (B_rwPmL acc n i s bad) ?_
  obtain⟨h0,h1,h2,h3⟩:=hinv
  have hQ' : Q (.exit 0,L_rwPmL_0.st (usd noU [1,2]) ((zO pmR acc (n - i).toNat (s,bad)).1,(),(zO pmR acc (n - i).toNat (s,bad)).2.1,(zO pmR acc (n - i).toNat (s,bad)).2.2,())):=hQ
  rw[jK (n:=i+1) (by omega) (by omega)]
  refine⟨fun c1=>?_,fun c1=>?_⟩
  ·have c1:=dcT c1
   rw[show (n - i).toNat=(n - (i+1)).toNat+1 by omega,rowsA_step] at hQ'
   generalize pmR (s,bad)=z at *
   obtain⟨⟨d0,d1,d2,d3⟩,s1,b1⟩:=z
   dsimp only at *
   exact⟨by simp only[List.length_cons,List.length_nil];omega,⟨⟨by omega,by omega,h2,by simp only[List.length_append,List.length_cons,List.length_nil];omega⟩,by show (n - (i+1)).toNat<(n - i).toNat;omega⟩,hQ'⟩
  ·have c1:=dcF c1
   rw[show (n - i).toNat=0 by omega,rowsA_zero] at hQ'
   exact hQ'
def L_rwPm:Lay:={ slots:=[(0,.ptr 2 0),(1,.val tI),(2,.clo 76 [(1,0)])],boxes:=[(1,[.ptr 2 0]),(2,[.val .str,.val .bool])] }
theorem T_rwPm(m:Int)(s:ByteArray)(bad:Bool):jF (P:=P) [c_next.gc,c_within.gc] (zI [(0,R_rwPmL)]) Tryz.f75 L_rwPm false ((),m,(),(),s,bad,()) =
 Tree.cond (!wi (zA (s,bad)).1 0 m) (.leaf { res:=.nils,boxes:=[[SV.ptr 2 0],[SV.str (zA (s,bad)).2.1,.bool true]] }) (.need (inv_rwPmL ((),[],(zA (s,bad)).1,0,(),(zA (s,bad)).2.1,(zA (s,bad)).2.2,())) (.leaf { res:=.sl tPm (zO pmR [] (Int.toNat ((zA (s,bad)).1 - 0)) (zA (s,bad)).2).1,boxes:=[[SV.ptr 2 0],[SV.str (zO pmR [] (Int.toNat ((zA (s,bad)).1 - 0)) (zA (s,bad)).2).2.1,.bool (zO pmR [] (Int.toNat ((zA (s,bad)).1 - 0)) (zA (s,bad)).2).2.2]] })):=by kernel_rfl
def c_rwPm:MC P:=MC.of (α:=Unit×Int×AeB1) 75 L_rwPm (fun x=>x) (fun x=>x) (fun _=>rfl)
 (fun(_,m,_)=>some (m<=1000))
 (fun(_,m,_,_,s,bad,_)=>⟨.sl tPm (rwS pmR m (s,bad)).1,[[.ptr 2 0],[.str (rwS pmR m (s,bad)).2.1,.bool (rwS pmR m (s,bad)).2.2]],[]⟩) (by kernel_rfl) (by kernel_rfl) (by kernel_rfl) (by
  rintro⟨⟨⟩,m,⟨⟩,⟨⟩,s,bad,⟨⟩⟩ hp
  refine m_le hm (own:=false) (by kernel_rfl) (by kernel_rfl) (by kernel_rfl) (T_rwPm m s bad) ⟨K_rwPmL,trivial⟩ ?_
  have hp' : m<=1000:=hp
  unfold rwS
  dsimp only
  generalize zA (s,bad)=z at *
  obtain⟨d,s1,b1⟩:=z
  dsimp only at *
  refine⟨fun c1=>?_,fun c1=>⟨?_,?_⟩⟩
  ·have c1:wi d 0 m=false:=by simpa using c1
   rw[if_pos c1]
   exact⟨rfl,rfl,rfl⟩
  ·have c1:wi d 0 m=true:=by simpa using c1
   obtain⟨d0,d1⟩:=wi_iff.1 c1
   exact⟨by decide,d0,by omega,by decide⟩
  ·have c1:wi d 0 m=true:=by simpa using c1
   rw[if_neg (by rw[c1];decide),Int.sub_zero]
   have e:zO pmR [] d.toNat (s1,b1)=rowsS pmR d.toNat (s1,b1):=by unfold zO;rw[List.nil_append]
   rw[e]
   exact⟨rfl,rfl,rfl⟩)
def L_rdEn:Lay:={ slots:=[(0,.ptr 1 0)],boxes:=[(1,[.ptr 2 0]),(2,[.val .str,.val .bool])] }
theorem T_rdEn(s:ByteArray)(bad:Bool):jF (P:=P) [c_next.gc,c_number.gc] (zI []) Tryz.f78 L_rdEn true ((),(),s,bad,()) =
 Tree.leaf { res:=.agg [.int .i64 (zA (s,bad)).1,.int .i64 (zA (zA (s,bad)).2).1,.int .i64 (zA (zA (zA (s,bad)).2).2).1,.int .i64 (zA (zA (zA (zA (s,bad)).2).2).2).1,.int .i64 (zA (zA (zA (zA (zA (s,bad)).2).2).2).2).1,.int .i64 (zA (zA (zA (zA (zA (zA (s,bad)).2).2).2).2).2).1],boxes:=[[SV.ptr 2 0],[SV.str (zA (zA (zA (zA (zA (zA (s,bad)).2).2).2).2).2).2.1,.bool (zA (zA (zA (zA (zA (zA (s,bad)).2).2).2).2).2).2.2]] }:=by kernel_rfl
def c_rdEn:MC P:=MC.of (α:=AeB1) 78 L_rdEn (fun x=>x) (fun x=>x) (fun _=>rfl)
 (fun _=>none)
 (fun(_,_,s,bad,_)=>⟨.agg [.int .i64 (enR (s,bad)).1.1,.int .i64 (enR (s,bad)).1.2.1,.int .i64 (enR (s,bad)).1.2.2.1,.int .i64 (enR (s,bad)).1.2.2.2.1,.int .i64 (enR (s,bad)).1.2.2.2.2.1,.int .i64 (enR (s,bad)).1.2.2.2.2.2],[[.ptr 2 0],[.str (enR (s,bad)).2.1,.bool (enR (s,bad)).2.2]],[]⟩) (by kernel_rfl) (by kernel_rfl) (by kernel_rfl) (by
  rintro⟨⟨⟩,⟨⟩,s,bad,⟨⟩⟩ hp
  refine m_of hm (own:=true) (by kernel_rfl) (by kernel_rfl) (by kernel_rfl) (T_rdEn s bad) trivial ?_
  unfold enR
  dsimp only
  generalize zA (s,bad)=z1
  obtain⟨d1,s1,b1⟩:=z1
  dsimp only
  generalize zA (s1,b1)=z2
  obtain⟨d2,s2,b2⟩:=z2
  dsimp only
  generalize zA (s2,b2)=z3
  obtain⟨d3,s3,b3⟩:=z3
  dsimp only
  generalize zA (s3,b3)=z4
  obtain⟨d4,s4,b4⟩:=z4
  dsimp only
  generalize zA (s4,b4)=z5
  obtain⟨d5,s5,b5⟩:=z5
  dsimp only
  generalize zA (s5,b5)=z6
  obtain⟨d6,s6,b6⟩:=z6
  dsimp only
  exact rfl)
def L_rwEnL:Lay:={ slots:=[(2,.clo 78 [(1,0)]),(8,.row 30 tEntry),(18,.val tI),(19,.val tI)],boxes:=[(1,[.ptr 2 0]),(2,[.val .str,.val .bool])] }
def L_rwEnL_0:Lay:={ slots:=[(8,.row 30 tEntry)],boxes:=[(1,[.ptr 2 0]),(2,[.val .str,.val .bool])] }
def X_rwEnL:Exit->St->Option Lay
 |.exit 0,_=>some L_rwEnL_0
 |_,_=>none
abbrev C_rwEnL:Code:=zQ (zJ Tryz.f77) 0
abbrev AeB3:Type:=Unit×List zP×Int×Int×Unit×ByteArray×Bool×Unit
theorem B_rwEnL(acc:List zP)(n i:Int)(s:ByteArray)(bad:Bool):zG (P:=P) [c_rdEn.gc] (zI []) [] 28 (usd noU [1,2]) (zN C_rwEnL) L_rwEnL X_rwEnL (α:=AeB3) (fun x=>x) (fun x=>x) ((),acc,n,i,(),s,bad,()) =
 Tree.cond (decide (i<n)) (.need ((acc.length+List.length [(enR (s,bad)).1])*48<=140737488355328) (.leaf (Sum.inl ((),acc++[(enR (s,bad)).1],n,IntKind.i64.wrap (i+1),(),(enR (s,bad)).2.1,(enR (s,bad)).2.2,())))) (.leaf (Sum.inr (Exit.exit 0,Lay.st L_rwEnL_0 (usd noU [1,2]) (acc,(),s,bad,())))):=by kernel_rfl
def inv_rwEnL:AeB3->Prop:=fun(_,acc,n,i,_)=>0<=i/\i<=n/\n<=1000/\(acc.length:Int)<=i
def O_rwEnL:AeB3->Tree (Exit×St):=fun(_,acc,n,i,_,s,bad,_)=>.leaf (.exit 0,L_rwEnL_0.st (usd noU [1,2]) ((zO enR acc (n - i).toNat (s,bad)).1,(),(zO enR acc (n - i).toNat (s,bad)).2.1,(zO enR acc (n - i).toNat (s,bad)).2.2,()))
def R_rwEnL:jA:=zY 28 L_rwEnL (fun x=>x) inv_rwEnL O_rwEnL
theorem K_rwEnL:zL P [] 28 none (usd noU [1,2]) C_rwEnL R_rwEnL:=by
 refine zM hm (cx:=[c_rdEn.gc]) [] (xl:=X_rwEnL) (α:=AeB3) (fun x=>x) (fun(_,_,n,i,_)=>(n - i).toNat) (fun _=>rfl) (by kernel_rfl) (by kernel_rfl) ?_ (by kernel_rfl) trivial ?_
 ·intro e S L' h
  unfold X_rwEnL at h
  split at h<;>cases h<;>kernel_rfl
 ·rintro⟨⟨⟩,acc,n,i,⟨⟩,s,bad,⟨⟩⟩ hinv Q hQ
  refine zF (B_rwEnL acc n i s bad) ?_
  obtain⟨h0,h1,h2,h3⟩:=hinv
  have hQ' : Q (.exit 0,L_rwEnL_0.st (usd noU [1,2]) ((zO enR acc (n - i).toNat (s,bad)).1,(),(zO enR acc (n - i).toNat (s,bad)).2.1,(zO enR acc (n - i).toNat (s,bad)).2.2,())):=hQ
  rw[jK (n:=i+1) (by omega) (by omega)]
  refine⟨fun c1=>?_,fun c1=>?_⟩
  ·have c1:=dcT c1
   rw[show (n - i).toNat=(n - (i+1)).toNat+1 by omega,rowsA_step] at hQ'
   generalize enR (s,bad)=z at *
   obtain⟨⟨d0,d1,d2,d3,d4,d5⟩,s1,b1⟩:=z
   dsimp only at *
   exact⟨by simp only[List.length_cons,List.length_nil];omega,⟨⟨by omega,by omega,h2,by simp only[List.length_append,List.length_cons,List.length_nil];omega⟩,by show (n - (i+1)).toNat<(n - i).toNat;omega⟩,hQ'⟩
  ·have c1:=dcF c1
   rw[show (n - i).toNat=0 by omega,rowsA_zero] at hQ'
   exact hQ'
def L_rwEn:Lay:={ slots:=[(0,.ptr 2 0),(1,.val tI),(2,.clo 78 [(1,0)])],boxes:=[(1,[.ptr 2 0]),(2,[.val .str,.val .bool])] }
theorem T_rwEn(m:Int)(s:ByteArray)(bad:Bool):jF (P:=P) [c_next.gc,c_within.gc] (zI [(0,R_rwEnL)]) Tryz.f77 L_rwEn false ((),m,(),(),s,bad,()) =
 Tree.cond (!wi (zA (s,bad)).1 0 m) (.leaf { res:=.nils,boxes:=[[SV.ptr 2 0],[SV.str (zA (s,bad)).2.1,.bool true]] }) (.need (inv_rwEnL ((),[],(zA (s,bad)).1,0,(),(zA (s,bad)).2.1,(zA (s,bad)).2.2,())) (.leaf { res:=.sl tEntry (zO enR [] (Int.toNat ((zA (s,bad)).1 - 0)) (zA (s,bad)).2).1,boxes:=[[SV.ptr 2 0],[SV.str (zO enR [] (Int.toNat ((zA (s,bad)).1 - 0)) (zA (s,bad)).2).2.1,.bool (zO enR [] (Int.toNat ((zA (s,bad)).1 - 0)) (zA (s,bad)).2).2.2]] })):=by kernel_rfl
def c_rwEn:MC P:=MC.of (α:=Unit×Int×AeB1) 77 L_rwEn (fun x=>x) (fun x=>x) (fun _=>rfl)
 (fun(_,m,_)=>some (m<=1000))
 (fun(_,m,_,_,s,bad,_)=>⟨.sl tEntry (rwS enR m (s,bad)).1,[[.ptr 2 0],[.str (rwS enR m (s,bad)).2.1,.bool (rwS enR m (s,bad)).2.2]],[]⟩) (by kernel_rfl) (by kernel_rfl) (by kernel_rfl) (by
  rintro⟨⟨⟩,m,⟨⟩,⟨⟩,s,bad,⟨⟩⟩ hp
  refine m_le hm (own:=false) (by kernel_rfl) (by kernel_rfl) (by kernel_rfl) (T_rwEn m s bad) ⟨K_rwEnL,trivial⟩ ?_
  have hp' : m<=1000:=hp
  unfold rwS
  dsimp only
  generalize zA (s,bad)=z at *
  obtain⟨d,s1,b1⟩:=z
  dsimp only at *
  refine⟨fun c1=>?_,fun c1=>⟨?_,?_⟩⟩
  ·have c1:wi d 0 m=false:=by simpa using c1
   rw[if_pos c1]
   exact⟨rfl,rfl,rfl⟩
  ·have c1:wi d 0 m=true:=by simpa using c1
   obtain⟨d0,d1⟩:=wi_iff.1 c1
   exact⟨by decide,d0,by omega,by decide⟩
  ·have c1:wi d 0 m=true:=by simpa using c1
   rw[if_neg (by rw[c1];decide),Int.sub_zero]
   have e:zO enR [] d.toNat (s1,b1)=rowsS enR d.toNat (s1,b1):=by unfold zO;rw[List.nil_append]
   rw[e]
   exact⟨rfl,rfl,rfl⟩)
end
end Go.MB
