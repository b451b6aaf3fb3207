/- Logs: the reference's reader. -/
import Derived.Test.YtfhomgggbhjglaaGreatMeB
namespace Go.MB
open Go Go.Sx Go.Proofs
set_option linter.unusedVariables false
set_option linter.unusedSimpArgs false
noncomputable section
def zB(r:Rd):Int×Rd:=if r.1.size<8 then (0,r.1,true) else (IntKind.i64.wrap (fdB r.1 8 0 0:Int),r.1.extract 8 r.1.size,r.2)
def zC(most:Int)(r:Rd):Int×Rd:=if wi (zB r).1 0 most=true then zB r else (0,(zB r).2.1,true)
theorem uptoD_rng{most:Int}(h:0<=most) (r:Rd):0<=(zC most r).1/\(zC most r).1<=most:=by
 unfold zC
 split
 ·rename_i c
  exact wi_iff.1 c
 ·exact⟨Int.le_refl 0,h⟩
theorem rowsA_nil{α:Type}(rd:Rd->α×Rd) (n:Nat) (r:Rd):zO rd [] n r=rowsS rd n r:=rfl
def rwD{α:Type}(rd:Rd->α×Rd) (most:Int) (r:Rd):List α×Rd:=rowsS rd (zC most r).1.toNat (zC most r).2
def elD(r:Rd):E4×Rd:=(((zC 3 r).1,(zB (zC 3 r).2).1,(zB (zB (zC 3 r).2).2).1,(zB (zB (zB (zC 3 r).2).2).2).1),(zB (zB (zB (zC 3 r).2).2).2).2)
def enD(r:Rd):zP×Rd:=(((zB r).1,(zB (zB r).2).1,(zB (zB (zB r).2).2).1,(zB (zB (zB (zB r).2).2).2).1,(zB (zB (zB (zB (zB r).2).2).2).2).1,(zB (zB (zB (zB (zB (zB r).2).2).2).2).2).1),(zB (zB (zB (zB (zB (zB r).2).2).2).2).2).2)
def pmD(r:Rd):Pm×Rd:=(((zC 16 r).1,(zC 20 (zC 16 r).2).1,(zB (zC 20 (zC 16 r).2).2).1,(zC 1 (zB (zC 20 (zC 16 r).2).2).2).1==1),(zC 1 (zB (zC 20 (zC 16 r).2).2).2).2)
def hsD(r:Rd):Hs×Rd :=
 let e:=rwD elD 10 r
 let v:=rwD (rwD (zC 10) 10) 8 e.2
 let n:=zC 3 v.2
 ((e.1,v.1,n.1),n.2)
def L_rnx0:Lay:={ slots:=[(0,.ptr 1 0),(3,.val (.int .u64)),(4,.val tI)],boxes:=[(1,[.val .str,.val .bool])] }
def L_rnx0_0:Lay:={ slots:=[(0,.ptr 1 0),(3,.val (.int .u64))],boxes:=[(1,[.val .str,.val .bool])] }
def X_rnx0:Exit->St->Option Lay
 |.exit 0,_=>some L_rnx0_0
 |_,_=>none
abbrev C_rnx0:Code:=zQ (zJ Tryz.f79) 0
abbrev AeK3:Type:=Unit×Int×Int×ByteArray×Bool×Unit
theorem B_rnx0(n i:Int)(s:ByteArray)(bad:Bool):zG (P:=P) [] (zI []) [] 38 (usd noU ([1])) (zN C_rnx0) L_rnx0 X_rnx0 (α:=AeK3) (fun x=>x) (fun x=>x) ((),n,i,s,bad,()) =
 Tree.cond (decide (i<8)) (.need ((0:Int)<=8) (.need (0<=i/\i<(↑(ByteArray.size s):Int)) (.leaf (Sum.inl ((),bits BinOp.or IntKind.u64 (shlI IntKind.u64 n 8) (IntKind.u64.wrap (Int.ofNat (UInt8.toNat (List.getD s.data.toList i.toNat (0:UInt8))))),IntKind.i64.wrap (i+1),s,bad,()))))) (.leaf (Sum.inr (Exit.exit 0,Lay.st L_rnx0_0 (usd noU [1]) ((),n,s,bad,())))):=by kernel_rfl
def inv_rnx0:AeK3->Prop:=fun(_,n,i,s,_)=>0<=i/\i<=8/\8<=s.size/\0<=n/\n<((2 ^ (8*i.toNat):Nat):Int)
def O_rnx0:AeK3->Tree (Exit×St):=fun(_,n,i,s,bad,_)=>(.leaf (.exit 0,L_rnx0_0.st (usd noU ([1])) ((),((fdB s (8 - i).toNat i n.toNat:Int)),s,bad,())))
def R_rnx0:jA:=zY 38 L_rnx0 (fun x=>x) inv_rnx0 O_rnx0
theorem K_rnx0:zL P [] 38 none (usd noU ([1])) C_rnx0 R_rnx0:=by
 refine zM hm (cx:=[]) [] (xl:=X_rnx0) (α:=AeK3) (fun x=>x) (fun(_,_,i,_)=>(8 - i).toNat) (fun _=>rfl) (by kernel_rfl) (by kernel_rfl) ?_ (by kernel_rfl) trivial ?_
 ·intro e S L' h
  unfold X_rnx0 at h
  split at h<;>cases h<;>kernel_rfl
 ·rintro⟨⟨⟩,n,i,s,bad,⟨⟩⟩ hinv Q hQ
  refine zF (B_rnx0 n i s bad) ?_
  obtain⟨h0,h1,h2,h3,h4⟩:=hinv
  obtain⟨I,rfl⟩:=Int.eq_ofNat_of_zero_le h0
  obtain⟨N,rfl⟩:=Int.eq_ofNat_of_zero_le h3
  unfold O_rnx0 at hQ
  dsimp only at hQ
  rw[Int.toNat_natCast] at h4 hQ
  rw[jK (n:=(I:Int)+1) (by omega) (by omega)]
  refine⟨fun c1=>?_,fun c1=>?_⟩
  ·have c1:=dcT c1
   have hb:=byteAt_rng s I
   have hN:N<2 ^ (8*I):=by omega
   have hN2:N<72057594037927936:=Nat.lt_of_lt_of_le hN (Nat.le_trans (Nat.pow_le_pow_right (by decide) (show 8*I<=56 by omega)) (by decide))
   rw[show (8 - (I:Int)).toNat=(8 - ((I:Int)+1)).toNat+1 by omega,fdB,Int.toNat_natCast] at hQ
   have eb:IntKind.wrap .u64 (Int.ofNat (UInt8.toNat (List.getD s.data.toList ((I:Int)).toNat (0:UInt8))))=(((byteAt s I).toNat:Nat):Int):=by
    rw[Int.toNat_natCast,IntKind.wrap_u64]
    have e2:Int.ofNat (UInt8.toNat (List.getD s.data.toList I (0:UInt8)))=byteAt s I:=rfl
    rw[e2]
    omega
   rw[eb,shl8 hN2,orN _ _ (by omega) (by omega),or_add (by omega)]
   have hB:(byteAt s I).toNat<256:=by omega
   generalize (byteAt s I).toNat=B at *
   have hpw:(2:Nat) ^ (8*(I+1))=2 ^ (8*I)*256:=by rw[Nat.mul_add,Nat.pow_add]
   refine⟨by decide,⟨by omega,by omega⟩,⟨⟨by omega,by omega,h2,by omega,?_⟩,by show (8 - ((I:Int)+1)).toNat<(8 - (I:Int)).toNat;omega⟩,?_⟩
   ·rw[show ((I:Int)+1).toNat=I+1 by omega,hpw]
    omega
   ·show Q _
    rw[Int.toNat_natCast]
    exact hQ
  ·have c1:=dcF c1
   rw[show (8 - (I:Int)).toNat=0 by omega,fdB] at hQ
   exact hQ
def L_rnext:Lay:={ slots:=[(0,.ptr 1 0)],boxes:=[(1,[.val .str,.val .bool])] }
theorem T_rnext(s:ByteArray)(bad:Bool):jF (P:=P) [] (zI [(0,R_rnx0)]) Tryz.f79 L_rnext true ((),s,bad,()) =
 Tree.cond (decide ((↑(ByteArray.size s):Int)<8)) (.leaf { res:=.int .i64 0,boxes:=[[SV.str s,.bool true]] }) (.need (inv_rnx0 ((),0,0,s,bad,())) (.need ((0:Int)<=8/\8<=(↑(ByteArray.size s):Int)) (.leaf { res:=.int .i64 (IntKind.i64.wrap (↑(fdB s (Int.toNat ((8:Int) - 0)) 0 (Int.toNat 0)):Int)),boxes:=[[SV.str (ByteArray.extract s (Int.toNat 8) (ByteArray.size s)),.bool bad]] }))):=by kernel_rfl
abbrev AeK4:Type:=Unit×ByteArray×Bool×Unit
def c_rnext:MC P:=MC.of (α:=AeK4) 79 L_rnext (fun x=>x) (fun x=>x) (fun _=>rfl)
 (fun _=>none)
 (fun x=>⟨.int .i64 (zB (x.2.1,x.2.2.1)).1,[[.str (zB (x.2.1,x.2.2.1)).2.1,.bool (zB (x.2.1,x.2.2.1)).2.2]],[]⟩) (by kernel_rfl) (by kernel_rfl) (by kernel_rfl) (by
  rintro⟨⟨⟩,s,bad,⟨⟩⟩ hp
  refine m_of hm (own:=true) (by kernel_rfl) (by kernel_rfl) (by kernel_rfl) (T_rnext s bad) ⟨K_rnx0,trivial⟩ ?_
  try dsimp only at hp
  try dsimp only
  unfold zB
  refine⟨fun c1=>?_,fun c1=>?_⟩
  ·have c1:=dcT c1
   rw[if_pos (show s.size<8 by omega)]
   exact rfl
  ·have c1:=dcF c1
   rw[if_neg (show ¬ s.size<8 by omega)]
   exact⟨⟨by decide,by decide,by omega,by decide,by decide⟩,⟨by decide,by omega⟩,rfl⟩)
def L_upto:Lay:={ slots:=[(0,.ptr 1 0),(1,.val tI)],boxes:=[(1,[.val .str,.val .bool])] }
theorem T_upto(m:Int)(s:ByteArray)(bad:Bool):jF (P:=P) [c_rnext.gc,c_between.gc] (zI []) Tryz.f80 L_upto true ((),m,s,bad,()) =
 Tree.cond (!wi (zB (s,bad)).1 0 m) (.leaf { res:=.int .i64 0,boxes:=[[SV.str (zB (s,bad)).2.1,.bool true]] }) (.leaf { res:=.int .i64 (zB (s,bad)).1,boxes:=[[SV.str (zB (s,bad)).2.1,.bool (zB (s,bad)).2.2]] }):=by kernel_rfl
def c_upto:MC P:=MC.of (α:=Unit×Int×ByteArray×Bool×Unit) 80 L_upto (fun x=>x) (fun x=>x) (fun _=>rfl)
 (fun _=>none)
 (fun x=>⟨.int .i64 (zC x.2.1 (x.2.2.1,x.2.2.2.1)).1,[[.str (zC x.2.1 (x.2.2.1,x.2.2.2.1)).2.1,.bool (zC x.2.1 (x.2.2.1,x.2.2.2.1)).2.2]],[]⟩) (by kernel_rfl) (by kernel_rfl) (by kernel_rfl) (by
  rintro⟨⟨⟩,m,s,bad,⟨⟩⟩ hp
  refine m_of hm (own:=true) (by kernel_rfl) (by kernel_rfl) (by kernel_rfl) (T_upto m s bad) trivial ?_
  try dsimp only at hp
  try dsimp only
  unfold zC
  refine⟨fun c1=>?_,fun c1=>?_⟩
  ·have c1:wi (zB (s,bad)).1 0 m=false:=by simpa using c1
   rw[if_neg (by rw[c1];decide)]
   exact rfl
  ·have c1:wi (zB (s,bad)).1 0 m=true:=by simpa using c1
   rw[if_pos c1]
   exact rfl)
attribute [local irreducible] zB zC
def L_rhs0:Lay:={ slots:=[(0,.ptr 1 0),(2,.ptr 3057 0),(3,.ptr 4057 0),(4,.val tI)],boxes:=[(1,[.val .str,.val .bool]),(3057,[.val (.sl (.pair tI tV)),.val (.sl tIs),.val tI]),(4057,[.row 47 (.pair tI tV),.row 31 tIs,.val tI])] }
def L_rhs0_0:Lay:={ slots:=[(0,.ptr 1 0),(2,.ptr 3057 0),(3,.ptr 4057 0)],boxes:=[(1,[.val .str,.val .bool]),(3057,[.val (.sl (.pair tI tV)),.val (.sl tIs),.val tI]),(4057,[.row 47 (.pair tI tV),.row 31 tIs,.val tI])] }
def X_rhs0:Exit->St->Option Lay
 |.exit 0,_=>some L_rhs0_0
 |_,_=>none
abbrev C_rhs0:Code:=zQ (zJ Tryz.f81) 0
abbrev AeK1:Type:=Unit×Unit×Unit×Int×ByteArray×Bool×List (Int×V)×List (List Int)×Int×List (Int×V)×List (List Int)×Int×Unit
theorem B_rhs0(i:Int)(s:ByteArray)(bad:Bool)(z0:List (Int×V))(z1:List (List Int))(z2:Int)(els:List (Int×V))(envs:List (List Int))(need:Int):zG (P:=P) [c_upto.gc,c_rnext.gc] (zI []) [] 57 (usd noU ([1])) (zN C_rhs0) L_rhs0 X_rhs0 (α:=AeK1) (fun x=>x) (fun x=>x) ((),(),(),i,s,bad,z0,z1,z2,els,envs,need,()) =
 Tree.cond (decide (i>0)) (.need ((els.length+List.length [((zC 3 (s,bad)).1,(zB (zC 3 (s,bad)).2).1,(zB (zB (zC 3 (s,bad)).2).2).1,(zB (zB (zB (zC 3 (s,bad)).2).2).2).1)])*32<=140737488355328) (.leaf (Sum.inl ((),(),(),IntKind.i64.wrap (i - 1),(zB (zB (zB (zC 3 (s,bad)).2).2).2).2.1,(zB (zB (zB (zC 3 (s,bad)).2).2).2).2.2,z0,z1,z2,els++[((zC 3 (s,bad)).1,(zB (zC 3 (s,bad)).2).1,(zB (zB (zC 3 (s,bad)).2).2).1,(zB (zB (zB (zC 3 (s,bad)).2).2).2).1)],envs,need,())))) (.leaf (Sum.inr (Exit.exit 0,Lay.st L_rhs0_0 (usd noU [1]) ((),(),(),s,bad,z0,z1,z2,els,envs,need,())))):=by kernel_rfl
def inv_rhs0:AeK1->Prop:=fun(_,_,_,i,_,_,_,_,_,els,_)=>0<=i/\i<=10/\(els.length:Int)<=10 - i
def O_rhs0:AeK1->Tree (Exit×St):=fun(_,_,_,i,s,bad,z0,z1,z2,els,envs,need,_)=>(.leaf (.exit 0,L_rhs0_0.st (usd noU ([1])) ((),(),(),((zO elD els i.toNat (s,bad)).2.1),((zO elD els i.toNat (s,bad)).2.2),z0,z1,z2,((zO elD els i.toNat (s,bad)).1),envs,need,())))
def R_rhs0:jA:=zY 57 L_rhs0 (fun x=>x) inv_rhs0 O_rhs0
theorem K_rhs0:zL P [] 57 none (usd noU ([1])) C_rhs0 R_rhs0:=by
 refine zM hm (cx:=[c_upto.gc,c_rnext.gc]) [] (xl:=X_rhs0) (α:=AeK1) (fun x=>x) (fun(_,_,_,i,_)=>i.toNat) (fun _=>rfl) (by kernel_rfl) (by kernel_rfl) ?_ (by kernel_rfl) trivial ?_
 ·intro e S L' h
  unfold X_rhs0 at h
  split at h<;>cases h<;>kernel_rfl
 ·rintro⟨⟨⟩,⟨⟩,⟨⟩,i,s,bad,z0,z1,z2,els,envs,need,⟨⟩⟩ hinv Q hQ
  refine zF (B_rhs0 i s bad z0 z1 z2 els envs need) ?_
  obtain⟨h0,h1,h2⟩:=hinv
  unfold O_rhs0 at hQ
  dsimp only at hQ
  refine⟨fun c1=>⟨by simp only[List.length_cons,List.length_nil];omega,?_⟩,fun c1=>?_⟩
  ·have c1:=dcT c1
   rw[jK (n:=i - 1) (by omega) (by omega)]
   rw[show i.toNat=(i - 1).toNat+1 by omega,rowsA_step] at hQ
   exact⟨⟨⟨by omega,by omega,by simp only[List.length_append,List.length_cons,List.length_nil];omega⟩,by show (i - 1).toNat<i.toNat;omega⟩,hQ⟩
  ·have c1:=dcF c1
   rw[show i.toNat=0 by omega,rowsA_zero] at hQ
   exact hQ
def L_rhs4:Lay:={ slots:=[(0,.ptr 1 0),(2,.ptr 3057 0),(3,.ptr 4057 0),(6,.val tI),(7,.row 3 tI),(8,.val tI)],boxes:=[(1,[.val .str,.val .bool]),(3057,[.val (.sl (.pair tI tV)),.val (.sl tIs),.val tI]),(4057,[.row 47 (.pair tI tV),.row 31 tIs,.val tI])] }
def L_rhs4_0:Lay:={ slots:=[(0,.ptr 1 0),(2,.ptr 3057 0),(3,.ptr 4057 0),(6,.val tI),(7,.row 3 tI)],boxes:=[(1,[.val .str,.val .bool]),(3057,[.val (.sl (.pair tI tV)),.val (.sl tIs),.val tI]),(4057,[.row 47 (.pair tI tV),.row 31 tIs,.val tI])] }
def X_rhs4:Exit->St->Option Lay
 |.exit 4,_=>some L_rhs4_0
 |_,_=>none
abbrev C_rhs4:Code:=zQ (zN (zQ (zJ Tryz.f81) 2)) 4
abbrev AeK2:Type:=Unit×Unit×Unit×Int×List Int×Int×ByteArray×Bool×List (Int×V)×List (List Int)×Int×List (Int×V)×List (List Int)×Int×Unit
theorem B_rhs4(j:Int)(l:List Int)(k:Int)(s:ByteArray)(bad:Bool)(z0:List (Int×V))(z1:List (List Int))(z2:Int)(els:List (Int×V))(envs:List (List Int))(need:Int):zG (P:=P) [c_upto.gc] (zI []) [] 57 (usd noU ([1])) (zN C_rhs4) L_rhs4 X_rhs4 (α:=AeK2) (fun x=>x) (fun x=>x) ((),(),(),j,l,k,s,bad,z0,z1,z2,els,envs,need,()) =
 Tree.cond (decide (k>0)) (.need ((l.length+List.length [(zC 10 (s,bad)).1])*8<=140737488355328) (.leaf (Sum.inl ((),(),(),j,l++[(zC 10 (s,bad)).1],IntKind.i64.wrap (k - 1),(zC 10 (s,bad)).2.1,(zC 10 (s,bad)).2.2,z0,z1,z2,els,envs,need,())))) (.leaf (Sum.inr (Exit.exit 4,Lay.st L_rhs4_0 (usd noU [1]) ((),(),(),j,l,s,bad,z0,z1,z2,els,envs,need,())))):=by kernel_rfl
def inv_rhs4:AeK2->Prop:=fun(_,_,_,_,l,k,_)=>0<=k/\k<=10/\(l.length:Int)<=10 - k
def O_rhs4:AeK2->Tree (Exit×St):=fun(_,_,_,j,l,k,s,bad,z0,z1,z2,els,envs,need,_)=>(.leaf (.exit 4,L_rhs4_0.st (usd noU ([1])) ((),(),(),j,((zO (zC 10) l k.toNat (s,bad)).1),((zO (zC 10) l k.toNat (s,bad)).2.1),((zO (zC 10) l k.toNat (s,bad)).2.2),z0,z1,z2,els,envs,need,())))
def R_rhs4:jA:=zY 57 L_rhs4 (fun x=>x) inv_rhs4 O_rhs4
theorem K_rhs4:zL P [] 57 none (usd noU ([1])) C_rhs4 R_rhs4:=by
 refine zM hm (cx:=[c_upto.gc]) [] (xl:=X_rhs4) (α:=AeK2) (fun x=>x) (fun(_,_,_,_,_,k,_)=>k.toNat) (fun _=>rfl) (by kernel_rfl) (by kernel_rfl) ?_ (by kernel_rfl) trivial ?_
 ·intro e S L' h
  unfold X_rhs4 at h
  split at h<;>cases h<;>kernel_rfl
 ·rintro⟨⟨⟩,⟨⟩,⟨⟩,j,l,k,s,bad,z0,z1,z2,els,envs,need,⟨⟩⟩ hinv Q hQ
  refine zF (B_rhs4 j l k s bad z0 z1 z2 els envs need) ?_
  obtain⟨h0,h1,h2⟩:=hinv
  unfold O_rhs4 at hQ
  dsimp only at hQ
  refine⟨fun c1=>⟨by simp only[List.length_cons,List.length_nil];omega,?_⟩,fun c1=>?_⟩
  ·have c1:=dcT c1
   rw[jK (n:=k - 1) (by omega) (by omega)]
   rw[show k.toNat=(k - 1).toNat+1 by omega,rowsA_step] at hQ
   exact⟨⟨⟨by omega,by omega,by simp only[List.length_append,List.length_cons,List.length_nil];omega⟩,by show (k - 1).toNat<k.toNat;omega⟩,hQ⟩
  ·have c1:=dcF c1
   rw[show k.toNat=0 by omega,rowsA_zero] at hQ
   exact hQ
def L_rhs2:Lay:={ slots:=[(0,.ptr 1 0),(2,.ptr 3057 0),(3,.ptr 4057 0),(6,.val tI)],boxes:=[(1,[.val .str,.val .bool]),(3057,[.val (.sl (.pair tI tV)),.val (.sl tIs),.val tI]),(4057,[.row 47 (.pair tI tV),.row 31 tIs,.val tI])] }
def L_rhs2_0:Lay:={ slots:=[(0,.ptr 1 0),(2,.ptr 3057 0),(3,.ptr 4057 0)],boxes:=[(1,[.val .str,.val .bool]),(3057,[.val (.sl (.pair tI tV)),.val (.sl tIs),.val tI]),(4057,[.row 47 (.pair tI tV),.row 31 tIs,.val tI])] }
def X_rhs2:Exit->St->Option Lay
 |.exit 2,_=>some L_rhs2_0
 |_,_=>none
abbrev C_rhs2:Code:=zQ (zJ Tryz.f81) 2
theorem B_rhs2(j:Int)(s:ByteArray)(bad:Bool)(z0:List (Int×V))(z1:List (List Int))(z2:Int)(els:List (Int×V))(envs:List (List Int))(need:Int):zG (P:=P) [c_upto.gc] (zI [(4,R_rhs4)]) [] 57 (usd noU ([1])) (zN C_rhs2) L_rhs2 X_rhs2 (α:=AeK1) (fun x=>x) (fun x=>x) ((),(),(),j,s,bad,z0,z1,z2,els,envs,need,()) =
 Tree.cond (decide (j>0)) (.need (inv_rhs4 ((),(),(),j,[],(zC 10 (s,bad)).1,(zC 10 (s,bad)).2.1,(zC 10 (s,bad)).2.2,z0,z1,z2,els,envs,need,())) (.need ((envs.length+List.length [(zO (zC 10) [] (Int.toNat (zC 10 (s,bad)).1) (zC 10 (s,bad)).2).1])*24<=140737488355328) (.leaf (Sum.inl ((),(),(),IntKind.i64.wrap (j - 1),(zO (zC 10) [] (Int.toNat (zC 10 (s,bad)).1) (zC 10 (s,bad)).2).2.1,(zO (zC 10) [] (Int.toNat (zC 10 (s,bad)).1) (zC 10 (s,bad)).2).2.2,z0,z1,z2,els,envs++[(zO (zC 10) [] (Int.toNat (zC 10 (s,bad)).1) (zC 10 (s,bad)).2).1],need,()))))) (.leaf (Sum.inr (Exit.exit 2,Lay.st L_rhs2_0 (usd noU [1]) ((),(),(),s,bad,z0,z1,z2,els,envs,need,())))):=by kernel_rfl
def inv_rhs2:AeK1->Prop:=fun(_,_,_,j,_,_,_,_,_,_,envs,_)=>0<=j/\j<=8/\(envs.length:Int)<=8 - j
def O_rhs2:AeK1->Tree (Exit×St):=fun(_,_,_,j,s,bad,z0,z1,z2,els,envs,need,_)=>(.leaf (.exit 2,L_rhs2_0.st (usd noU ([1])) ((),(),(),((zO (rwD (zC 10) 10) envs j.toNat (s,bad)).2.1),((zO (rwD (zC 10) 10) envs j.toNat (s,bad)).2.2),z0,z1,z2,els,((zO (rwD (zC 10) 10) envs j.toNat (s,bad)).1),need,())))
def R_rhs2:jA:=zY 57 L_rhs2 (fun x=>x) inv_rhs2 O_rhs2
theorem K_rhs2:zL P [] 57 none (usd noU ([1])) C_rhs2 R_rhs2:=by
 refine zM hm (cx:=[c_upto.gc]) [(4,R_rhs4)] (xl:=X_rhs2) (α:=AeK1) (fun x=>x) (fun(_,_,_,j,_)=>j.toNat) (fun _=>rfl) (by kernel_rfl) (by kernel_rfl) ?_ (by kernel_rfl) ⟨K_rhs4,trivial⟩ ?_
 ·intro e S L' h
  unfold X_rhs2 at h
  split at h<;>cases h<;>kernel_rfl
 ·rintro⟨⟨⟩,⟨⟩,⟨⟩,j,s,bad,z0,z1,z2,els,envs,need,⟨⟩⟩ hinv Q hQ
  refine zF (B_rhs2 j s bad z0 z1 z2 els envs need) ?_
  obtain⟨h0,h1,h2⟩:=hinv
  unfold O_rhs2 at hQ
  dsimp only at hQ
  have hu:=uptoD_rng (most:=10) (by decide) (s,bad)
  refine⟨fun c1=>⟨⟨hu.1,hu.2,by show ((0:Nat):Int)<=_;omega⟩,by simp only[List.length_cons,List.length_nil];omega,?_⟩,fun c1=>?_⟩
  ·have c1:=dcT c1
   rw[jK (n:=j - 1) (by omega) (by omega)]
   rw[show j.toNat=(j - 1).toNat+1 by omega,rowsA_step] at hQ
   rw[rowsA_nil]
   exact⟨⟨⟨by omega,by omega,by simp only[List.length_append,List.length_cons,List.length_nil];omega⟩,by show (j - 1).toNat<j.toNat;omega⟩,hQ⟩
  ·have c1:=dcF c1
   rw[show j.toNat=0 by omega,rowsA_zero] at hQ
   exact hQ
def L_rhouse:Lay:={ slots:=[(0,.ptr 1 0)],boxes:=[(1,[.val .str,.val .bool])] }
theorem T_rhouse(s:ByteArray)(bad:Bool):jF (P:=P) [c_upto.gc] (zI [(0,R_rhs0),(2,R_rhs2)]) Tryz.f81 L_rhouse false ((),s,bad,()) =
 Tree.need (inv_rhs0 ((),(),(),(zC 10 (s,bad)).1,(zC 10 (s,bad)).2.1,(zC 10 (s,bad)).2.2,[],[],0,[],[],0,())) (.need (inv_rhs2 ((),(),(),(zC 8 (zO elD [] (Int.toNat (zC 10 (s,bad)).1) (zC 10 (s,bad)).2).2).1,(zC 8 (zO elD [] (Int.toNat (zC 10 (s,bad)).1) (zC 10 (s,bad)).2).2).2.1,(zC 8 (zO elD [] (Int.toNat (zC 10 (s,bad)).1) (zC 10 (s,bad)).2).2).2.2,[],[],0,(zO elD [] (Int.toNat (zC 10 (s,bad)).1) (zC 10 (s,bad)).2).1,[],0,())) (.leaf { res:=.agg [.sl (Ty.pair tI tV) (zO elD [] (Int.toNat (zC 10 (s,bad)).1) (zC 10 (s,bad)).2).1,.sl tIs (zO (rwD (zC 10) 10) [] (Int.toNat (zC 8 (zO elD [] (Int.toNat (zC 10 (s,bad)).1) (zC 10 (s,bad)).2).2).1) (zC 8 (zO elD [] (Int.toNat (zC 10 (s,bad)).1) (zC 10 (s,bad)).2).2).2).1,.int .i64 (zC 3 (zO (rwD (zC 10) 10) [] (Int.toNat (zC 8 (zO elD [] (Int.toNat (zC 10 (s,bad)).1) (zC 10 (s,bad)).2).2).1) (zC 8 (zO elD [] (Int.toNat (zC 10 (s,bad)).1) (zC 10 (s,bad)).2).2).2).2).1],boxes:=[[SV.str (zC 3 (zO (rwD (zC 10) 10) [] (Int.toNat (zC 8 (zO elD [] (Int.toNat (zC 10 (s,bad)).1) (zC 10 (s,bad)).2).2).1) (zC 8 (zO elD [] (Int.toNat (zC 10 (s,bad)).1) (zC 10 (s,bad)).2).2).2).2).2.1,.bool (zC 3 (zO (rwD (zC 10) 10) [] (Int.toNat (zC 8 (zO elD [] (Int.toNat (zC 10 (s,bad)).1) (zC 10 (s,bad)).2).2).1) (zC 8 (zO elD [] (Int.toNat (zC 10 (s,bad)).1) (zC 10 (s,bad)).2).2).2).2).2.2]] })):=by kernel_rfl
def c_rhouse:MC P:=MC.of (α:=AeK4) 81 L_rhouse (fun x=>x) (fun x=>x) (fun _=>rfl)
 (fun _=>none)
 (fun x=>⟨.agg [.sl tEl (hsD (x.2.1,x.2.2.1)).1.1,.sl tIs (hsD (x.2.1,x.2.2.1)).1.2.1,.int .i64 (hsD (x.2.1,x.2.2.1)).1.2.2],[[.str (hsD (x.2.1,x.2.2.1)).2.1,.bool (hsD (x.2.1,x.2.2.1)).2.2]],[]⟩) (by kernel_rfl) (by kernel_rfl) (by kernel_rfl) (by
  rintro⟨⟨⟩,s,bad,⟨⟩⟩ hp
  refine m_le hm (own:=false) (by kernel_rfl) (by kernel_rfl) (by kernel_rfl) (T_rhouse s bad) ⟨K_rhs0,K_rhs2,trivial⟩ ?_
  try dsimp only at hp
  try dsimp only
  have h1:=uptoD_rng (most:=10) (by decide) (s,bad)
  refine⟨⟨h1.1,h1.2,by show ((0:Nat):Int)<=_;omega⟩,?_,?_⟩
  ·have h2:=uptoD_rng (most:=8) (by decide) (zO elD [] (zC 10 (s,bad)).1.toNat (zC 10 (s,bad)).2).2
   exact⟨h2.1,h2.2,by show ((0:Nat):Int)<=_;omega⟩
  ·unfold hsD rwD
   exact⟨⟨rfl,rfl,rfl,trivial⟩,rfl,rfl⟩)
end
end Go.MB
