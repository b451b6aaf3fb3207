/- Logs: a number's bytes, the next number of a log. -/
import Derived.Test.YtfhomgggbhjglaaGreatMuD
import Derived.Test.YtfhomgggbhjglaaGreatFw4
namespace Go.MB
open Go Go.Sx Go.Proofs
set_option linter.unusedVariables false
set_option linter.unusedSimpArgs false
noncomputable section
def fdB(s:ByteArray):Nat->Int->Nat->Nat
 |0,_,n=>n
 |m+1,i,n=>fdB s m (i+1) (n*256+(byteAt s i.toNat).toNat)
theorem byteAt_rng(s:ByteArray)(i:Nat):0<=byteAt s i/\byteAt s i<256:=by
 unfold byteAt
 have:=(s.data.toList.getD i 0).toNat_lt
 omega
abbrev Rd:=ByteArray×Bool
def zA(r:Rd):Int×Rd:=if r.1.size<8 then (0,ByteArray.empty,true) else (IntKind.i64.wrap (fdB r.1 8 0 0:Int),r.1.extract 8 r.1.size,r.2)
theorem shl8{n:Nat}(h:n<72057594037927936):shlI .u64 (n:Int) 8=((n*256:Nat):Int):=by
 show IntKind.wrap .u64 ((n:Int)*2 ^ min (Int.toNat 8) 64)=_
 rw[IntKind.wrap_u64,show min (Int.toNat 8) 64=8 from rfl,show (2:Int) ^ 8=256 by decide]
 omega
theorem or_add{a b:Nat}(hb:b<256):a*256 |||b=a*256+b:=by
 have:=Nat.two_pow_add_eq_or_of_lt (i:=8) (b:=b) (by omega) a
 rw[show 2 ^ 8*a=a*256 by omega] at this
 exact this.symm
def L_next0:Lay:={ slots:=[(0,.ptr 1 0),(3,.val (.int .u64)),(17,.val tI)],boxes:=[(1,[.val .str,.val .bool])] }
def L_next0_0:Lay:={ slots:=[(0,.ptr 1 0),(3,.val (.int .u64))],boxes:=[(1,[.val .str,.val .bool])] }
def X_next0:Exit->St->Option Lay
 |.exit 0,_=>some L_next0_0
 |_,_=>none
abbrev C_next0:Code:=zQ (zJ Tryz.f68) 0
abbrev AeA1:Type:=Unit×Int×Int×ByteArray×Bool×Unit
theorem B_next0(n i:Int)(s:ByteArray)(bad:Bool):zG (P:=P) [] (zI []) [] 41 (usd noU ([1])) (zN C_next0) L_next0 X_next0 (α:=AeA1) (fun x=>x) (fun x=>x) ((),n,i,s,bad,()) =
 Tree.cond (decide (i<8)) (.need ((0:Int)<=8) (.need (0<=i/\i<(↑(ByteArray.size s):Int)) (.leaf (Sum.inl ((),bits BinOp.or IntKind.u64 (shlI IntKind.u64 n 8) (IntKind.u64.wrap (Int.ofNat (UInt8.toNat (List.getD s.data.toList i.toNat (0:UInt8))))),IntKind.i64.wrap (i+1),s,bad,()))))) (.leaf (Sum.inr (Exit.exit 0,Lay.st L_next0_0 (usd noU [1]) ((),n,s,bad,())))):=by kernel_rfl
def inv_next0:AeA1->Prop:=fun(_,n,i,s,_)=>0<=i/\i<=8/\8<=s.size/\0<=n/\n<((2 ^ (8*i.toNat):Nat):Int)
def O_next0:AeA1->Tree (Exit×St):=fun(_,n,i,s,bad,_)=>(.leaf (.exit 0,L_next0_0.st (usd noU ([1])) ((),((fdB s (8 - i).toNat i n.toNat:Int)),s,bad,())))
def R_next0:jA:=zY 41 L_next0 (fun x=>x) inv_next0 O_next0
theorem K_next0:zL P [] 41 none (usd noU ([1])) C_next0 R_next0:=by
 refine zM hm (cx:=[]) [] (xl:=X_next0) (α:=AeA1) (fun x=>x) (fun(_,_,i,_)=>(8 - i).toNat) (fun _=>rfl) (by kernel_rfl) (by kernel_rfl) ?_ (by kernel_rfl) trivial ?_
 ·intro e S L' h
  unfold X_next0 at h
  split at h<;>cases h<;>kernel_rfl
 ·rintro⟨⟨⟩,n,i,s,bad,⟨⟩⟩ hinv Q hQ
  refine zF (B_next0 n i s bad) ?_
  obtain⟨h0,h1,h2,h3,h4⟩:=hinv
  obtain⟨I,rfl⟩:=Int.eq_ofNat_of_zero_le h0
  obtain⟨N,rfl⟩:=Int.eq_ofNat_of_zero_le h3
  have hQ' : Q (.exit 0,L_next0_0.st (usd noU [1]) ((),(fdB s (8 - (I:Int)).toNat (I:Int) ((N:Int)).toNat:Int),s,bad,())):=hQ
  rw[Int.toNat_natCast] at h4 hQ'
  rw[jK (n:=(I:Int)+1) (by omega) (by omega)]
  refine⟨fun c1=>?_,fun c1=>?_⟩
  ·have c1:=dcT c1
   have hb:=byteAt_rng s I
   have hN:N<2 ^ (8*I):=by omega
   have hN2:N<72057594037927936:=Nat.lt_of_lt_of_le hN (Nat.le_trans (Nat.pow_le_pow_right (by decide) (show 8*I<=56 by omega)) (by decide))
   rw[show (8 - (I:Int)).toNat=(8 - ((I:Int)+1)).toNat+1 by omega,fdB,Int.toNat_natCast] at hQ'
   have eb:IntKind.wrap .u64 (Int.ofNat (UInt8.toNat (List.getD s.data.toList ((I:Int)).toNat (0:UInt8))))=(((byteAt s I).toNat:Nat):Int):=by
    rw[Int.toNat_natCast,IntKind.wrap_u64]
    have e2:Int.ofNat (UInt8.toNat (List.getD s.data.toList I (0:UInt8)))=byteAt s I:=rfl
    rw[e2]
    omega
   rw[eb,shl8 hN2,orN _ _ (by omega) (by omega),or_add (by omega)]
   have hB:(byteAt s I).toNat<256:=by omega
   generalize (byteAt s I).toNat=B at *
   have hpw:(2:Nat) ^ (8*(I+1))=2 ^ (8*I)*256:=by rw[Nat.mul_add,Nat.pow_add]
   refine⟨by decide,⟨by omega,by omega⟩,⟨⟨by omega,by omega,h2,by omega,?_⟩,by show (8 - ((I:Int)+1)).toNat<(8 - (I:Int)).toNat;omega⟩,?_⟩
   ·rw[show ((I:Int)+1).toNat=I+1 by omega,hpw]
    omega
   ·show Q _
    rw[Int.toNat_natCast]
    exact hQ'
  ·have c1:=dcF c1
   rw[show (8 - (I:Int)).toNat=0 by omega,fdB] at hQ'
   exact hQ'
def L_next:Lay:={ slots:=[(0,.ptr 1 0)],boxes:=[(1,[.val .str,.val .bool])] }
theorem T_next(s:ByteArray)(bad:Bool):jF (P:=P) [] (zI [(0,R_next0)]) Tryz.f68 L_next true ((),s,bad,()) =
 Tree.cond (decide ((↑(ByteArray.size s):Int)<8)) (.leaf { res:=.int .i64 0,boxes:=[[SV.str { data:=#[] },.bool true]] }) (.need (inv_next0 ((),0,0,s,bad,())) (.need ((0:Int)<=8/\8<=(↑(ByteArray.size s):Int)) (.leaf { res:=.int .i64 (IntKind.i64.wrap (↑(fdB s (Int.toNat ((8:Int) - 0)) 0 (Int.toNat 0)):Int)),boxes:=[[SV.str (ByteArray.extract s (Int.toNat 8) (ByteArray.size s)),.bool bad]] }))):=by kernel_rfl
abbrev AeA2:Type:=Unit×ByteArray×Bool×Unit
def c_next:MC P:=MC.of (α:=AeA2) 68 L_next (fun x=>x) (fun x=>x) (fun _=>rfl)
 (fun _=>none)
 (fun x=>⟨.int .i64 (zA (x.2.1,x.2.2.1)).1,[[.str (zA (x.2.1,x.2.2.1)).2.1,.bool (zA (x.2.1,x.2.2.1)).2.2]],[]⟩) (by kernel_rfl) (by kernel_rfl) (by kernel_rfl) (by
  rintro⟨⟨⟩,s,bad,⟨⟩⟩ hp
  refine m_of hm (own:=true) (by kernel_rfl) (by kernel_rfl) (by kernel_rfl) (T_next s bad) ⟨K_next0,trivial⟩ ?_
  try dsimp only at hp
  try dsimp only
  unfold zA
  refine⟨fun c1=>?_,fun c1=>?_⟩
  ·have c1:=dcT c1
   rw[if_pos (show s.size<8 by omega)]
   exact rfl
  ·have c1:=dcF c1
   rw[if_neg (show ¬ s.size<8 by omega)]
   exact⟨⟨by decide,by decide,by omega,by decide,by decide⟩,⟨by decide,by omega⟩,rfl⟩)
def L_number:Lay:={ slots:=[(0,.ptr 1 0)],boxes:=[(1,[.val .str,.val .bool])] }
theorem T_number(s:ByteArray)(bad:Bool):jF (P:=P) [c_next.gc] (zI []) Tryz.f69 L_number true ((),s,bad,()) =
 Tree.leaf { res:=.int .i64 (zA (s,bad)).1,boxes:=[[SV.str (zA (s,bad)).2.1,.bool (zA (s,bad)).2.2]] }:=by kernel_rfl
def c_number:MC P:=MC.of (α:=AeA2) 69 L_number (fun x=>x) (fun x=>x) (fun _=>rfl)
 (fun _=>none)
 (fun(_,s,bad,_)=>⟨.int .i64 (zA (s,bad)).1,[[.str (zA (s,bad)).2.1,.bool (zA (s,bad)).2.2]],[]⟩) (by kernel_rfl) (by kernel_rfl) (by kernel_rfl) (by
  rintro⟨⟨⟩,s,bad,⟨⟩⟩ hp
  refine m_of hm (own:=true) (by kernel_rfl) (by kernel_rfl) (by kernel_rfl) (T_number s bad) trivial ?_
  exact rfl)
end
end Go.MB
