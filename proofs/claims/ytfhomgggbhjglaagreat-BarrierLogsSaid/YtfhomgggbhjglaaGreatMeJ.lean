/- Logs: the log of a site and entries, as the reference writes it. -/
import Derived.Test.YtfhomgggbhjglaaGreatMeD
namespace Go.MB
open Go Go.Sx Go.Proofs
set_option linter.unusedVariables false
set_option linter.unusedSimpArgs false
noncomputable section
def addN(b:ByteArray)(l:List Int):ByteArray:=b++strOfNums (bysN l)
theorem bysN_cat:∀a b:List Int,bysN (a++b)=bysN a++bysN b
 | [],b=>rfl
 |n::a,b=>by rw[List.cons_append,bysN,bysN,bysN_cat a b,List.append_assoc]
theorem strN_cat(a b:List Int):strOfNums a++strOfNums b=strOfNums (a++b):=by
 apply ByteArray.ext
 rw[ByteArray.data_append]
 unfold strOfNums
 simp
theorem addN_nil(b:ByteArray):addN b []=b:=by
 unfold addN
 apply ByteArray.ext
 rw[ByteArray.data_append]
 show b.data++(strOfNums []).data=b.data
 unfold strOfNums
 simp
theorem addN_cat(b:ByteArray)(x y:List Int):addN (addN b x) y=addN b (x++y):=by
 unfold addN
 rw[bysN_cat,<- strN_cat,ByteArray.append_assoc]
theorem addN_str(a x:List Int):addN (strOfNums a) x=strOfNums (a++bysN x):=strN_cat _ _
theorem addN_size(b:ByteArray)(x:List Int):(addN b x).size=b.size+8*x.length:=by
 unfold addN
 rw[ByteArray.size_append,strOfNums_size,bysN_len]
def L_rnum2:Lay:={ slots:=[(0,.val tIs),(3,.row 5 (.int .u8)),(4,.val tI),(5,.val tI)] }
def L_rnum2_0:Lay:={ slots:=[(0,.val tIs),(3,.row 5 (.int .u8)),(4,.val tI)] }
def X_rnum2:Exit->St->Option Lay
 |.exit 2,_=>some L_rnum2_0
 |_,_=>none
abbrev C_rnum2:Code:=zQ (zN (zQ (zJ Tryz.f114) 0)) 2
abbrev AeJ4:Type:=List Int×List Int×Int×Int×Unit
theorem B_rnum2(l b:List Int)(i k:Int):zG (P:=P) [] (zI []) [] 31 noU (zN C_rnum2) L_rnum2 X_rnum2 (α:=AeJ4) (fun x=>x) (fun x=>x) (l,b,i,k,()) =
 Tree.cond (decide (k>=0)) (.need (0<=i/\i<(l.length:Int)) (.need (0<=IntKind.u64.wrap (IntKind.i64.wrap (8*k))) (.need ((b.length+List.length [IntKind.wrap IntKind.u8 (shrI IntKind.u64 (IntKind.u64.wrap (l.getD i.toNat 0)) (IntKind.u64.wrap (IntKind.i64.wrap (8*k))))])*1<=140737488355328) (.leaf (Sum.inl (l,b++[IntKind.wrap IntKind.u8 (shrI IntKind.u64 (IntKind.u64.wrap (l.getD i.toNat 0)) (IntKind.u64.wrap (IntKind.i64.wrap (8*k))))],i,IntKind.i64.wrap (k - 1),())))))) (.leaf (Sum.inr (Exit.exit 2,Lay.st L_rnum2_0 noU (l,b,i,())))):=by kernel_rfl
def inv_rnum2:AeJ4->Prop:=fun(l,b,i,k,_)=>(0<=i/\i<l.length/\l.length<=100)/\(-1<=k/\k<=7)/\(b.length:Int)<=8*i+7 - k
def O_rnum2:AeJ4->Tree (Exit×St):=fun(l,b,i,k,_)=>(.leaf (.exit 2,L_rnum2_0.st noU (l,(b++byA (l.getD i.toNat 0) (k+1).toNat (8*k)),i,())))
def R_rnum2:jA:=zY 31 L_rnum2 (fun x=>x) inv_rnum2 O_rnum2
theorem K_rnum2:zL P [] 31 none noU C_rnum2 R_rnum2:=by
 refine zM hm (cx:=[]) [] (xl:=X_rnum2) (α:=AeJ4) (fun x=>x) (fun(_,_,_,k,_)=>(k+1).toNat) (fun _=>rfl) (by kernel_rfl) (by kernel_rfl) ?_ (by kernel_rfl) trivial ?_
 ·intro e S L' h
  unfold X_rnum2 at h
  split at h<;>cases h<;>kernel_rfl
 ·rintro⟨l,b,i,k,⟨⟩⟩ hinv Q hQ
  refine zF (B_rnum2 l b i k) ?_
  obtain⟨⟨h0,h1,h2⟩,⟨h3,h4⟩,h5⟩:=hinv
  rw[jK (n:=k - 1) (by omega) (by omega),jK (n:=8*k) (by omega) (by omega)]
  unfold O_rnum2 at hQ
  dsimp only at hQ
  refine⟨fun c1=>?_,fun c1=>?_⟩
  ·have c1:=dcT c1
   rw[U64_id (n:=8*k) (by omega) (by omega)]
   rw[show (k+1).toNat=(k - 1+1).toNat+1 from by omega,byA,List.append_cons,show 8*k - 8=8*(k - 1) by omega] at hQ
   exact⟨⟨h0,h1⟩,by omega,by simp only[List.length_cons,List.length_nil];omega,⟨⟨⟨h0,h1,h2⟩,⟨by omega,by omega⟩,by simp only[List.length_append,List.length_cons,List.length_nil];omega⟩,by show (k - 1+1).toNat<(k+1).toNat;omega⟩,hQ⟩
  ·have c1:=dcF c1
   rw[show (k+1).toNat=0 from by omega,byA,List.append_nil] at hQ
   exact hQ
def L_rnum0:Lay:={ slots:=[(0,.val tIs),(3,.row 5 (.int .u8)),(4,.val tI)] }
def L_rnum0_0:Lay:={ slots:=[(3,.row 5 (.int .u8))] }
def X_rnum0:Exit->St->Option Lay
 |.exit 0,_=>some L_rnum0_0
 |_,_=>none
abbrev C_rnum0:Code:=zQ (zJ Tryz.f114) 0
abbrev AeJ5:Type:=List Int×List Int×Int×Unit
theorem B_rnum0(l b:List Int)(i:Int):zG (P:=P) [] (zI [(2,R_rnum2)]) [] 31 noU (zN C_rnum0) L_rnum0 X_rnum0 (α:=AeJ5) (fun x=>x) (fun x=>x) (l,b,i,()) =
 Tree.cond (decide (i<(l.length:Int))) (.need (inv_rnum2 (l,b,i,7,())) (.leaf (Sum.inl (l,b++byA (l.getD i.toNat 0) (Int.toNat ((7:Int)+1)) ((8:Int)*7),IntKind.i64.wrap (i+1),())))) (.leaf (Sum.inr (Exit.exit 0,Lay.st L_rnum0_0 noU (b,())))):=by kernel_rfl
def inv_rnum0:AeJ5->Prop:=fun(l,b,i,_)=>0<=i/\i<=l.length/\l.length<=100/\(b.length:Int)<=8*i
def O_rnum0:AeJ5->Tree (Exit×St):=fun(l,b,i,_)=>(.leaf (.exit 0,L_rnum0_0.st noU ((b++bysN (l.drop i.toNat)),())))
def R_rnum0:jA:=zY 31 L_rnum0 (fun x=>x) inv_rnum0 O_rnum0
theorem K_rnum0:zL P [] 31 none noU C_rnum0 R_rnum0:=by
 refine zM hm (cx:=[]) [(2,R_rnum2)] (xl:=X_rnum0) (α:=AeJ5) (fun x=>x) (fun(l,_,i,_)=>(l.length - i).toNat) (fun _=>rfl) (by kernel_rfl) (by kernel_rfl) ?_ (by kernel_rfl) ⟨K_rnum2,trivial⟩ ?_
 ·intro e S L' h
  unfold X_rnum0 at h
  split at h<;>cases h<;>kernel_rfl
 ·rintro⟨l,b,i,⟨⟩⟩ hinv Q hQ
  refine zF (B_rnum0 l b i) ?_
  obtain⟨h0,h1,h2,h3⟩:=hinv
  rw[jK (n:=i+1) (by omega) (by omega),show Int.toNat (7+1)=8 from rfl,show (8:Int)*7=56 from rfl]
  unfold O_rnum0 at hQ
  dsimp only at hQ
  refine⟨fun c1=>?_,fun c1=>?_⟩
  ·have c1:=dcT c1
   rw[zS (0:Int) h0 c1,bysN,<- List.append_assoc] at hQ
   exact⟨⟨⟨h0,c1,h2⟩,⟨by decide,by decide⟩,by omega⟩,⟨⟨by omega,by omega,h2,by rw[List.length_append,byA_len];omega⟩,by show ((l.length:Int) - (i+1)).toNat<((l.length:Int) - i).toNat;omega⟩,hQ⟩
  ·rw[zR (dcF c1),bysN,List.append_nil] at hQ
   exact hQ
theorem T_rnumber(l:List Int):zU (P:=P) [] (zI [(0,R_rnum0)]) Tryz.f114 (jM 0 [.val tIs] (l,())) =
 Tree.need (inv_rnum0 (l,[],0,())) (.leaf (SV.str (strOfNums (bysN (List.drop (Int.toNat 0) l))))):=by kernel_rfl
def c_rnumber:PC P:=PC.of (α:=List Int×Unit) 114 [.val tIs] (fun x=>x) (fun x=>x) (fun _=>rfl)
 (fun x=>some (x.1.length<=100))
 (fun x=>.str (strOfNums (bysN x.1))) (by kernel_rfl) (by
  rintro⟨l,⟨⟩⟩ hp
  refine fn_of hm (by kernel_rfl) (by kernel_rfl) (T_rnumber l) ⟨K_rnum0,trivial⟩ ?_
  try dsimp only at hp
  try dsimp only
  have h:l.length<=100:=hp
  exact⟨⟨by decide,by omega,h,by decide⟩,rfl⟩)
theorem T_rone(b:Bool):zU (P:=P) [] (zI []) Tryz.f115 (jM 0 [.val .bool] (b,())) =
 Tree.cond b (.leaf (.int .i64 1)) (.leaf (.int .i64 0)):=by kernel_rfl
def c_rone:PC P:=PC.of (α:=Bool×Unit) 115 [.val .bool] (fun x=>x) (fun x=>x) (fun _=>rfl)
 (fun _=>none)
 (fun x=>.int .i64 (oneS x.1)) (by kernel_rfl) (by
  rintro⟨b,⟨⟩⟩ hp
  refine fn_of hm (by kernel_rfl) (by kernel_rfl) (T_rone b) trivial ?_
  try dsimp only at hp
  try dsimp only
  refine⟨fun c1=>?_,fun c1=>?_⟩
  ·rw[show b=true from c1];exact rfl
  ·rw[show b=false from c1];exact rfl)
def L_rwr0:Lay:={ slots:=[(1,.val (.sl (.pair tI (.pair tI (.pair tI tV))))),(2,.ptr 3170 0),(5,.val .str),(6,.val tI)],boxes:=[(3170,[.val tI,.val tI,.val tI,.val tI,.val tI,.val (.sl (.pair tI tV)),.val (.sl tIs),.val tI,.val (.sl (.pair tI (.pair tI (.pair tI .bool)))),.val tI])] }
def L_rwr0_0:Lay:={ slots:=[(1,.val (.sl (.pair tI (.pair tI (.pair tI tV))))),(2,.ptr 3170 0),(5,.val .str)],boxes:=[(3170,[.val tI,.val tI,.val tI,.val tI,.val tI,.val (.sl (.pair tI tV)),.val (.sl tIs),.val tI,.val (.sl (.pair tI (.pair tI (.pair tI .bool)))),.val tI])] }
def X_rwr0:Exit->St->Option Lay
 |.exit 0,_=>some L_rwr0_0
 |_,_=>none
abbrev C_rwr0:Code:=zQ (zJ Tryz.f66) 0
abbrev AeJ1:Type:=List (Int×(Int×(Int×V)))×Unit×ByteArray×Int×Int×Int×Int×Int×Int×List (Int×V)×List (List Int)×Int×List (Int×(Int×(Int×Bool)))×Int×Unit
theorem B_rwr0(l:List (Int×(Int×(Int×V))))(b:ByteArray)(i r s t v w:Int)(g:List (Int×V))(p:List (List Int))(A:Int)(o:List (Int×(Int×(Int×Bool))))(B:Int):zG (P:=P) [c_rnumber.gc] (zI []) [] 170 noU (zN C_rwr0) L_rwr0 X_rwr0 (α:=AeJ1) (fun x=>x) (fun x=>x) (l,(),b,i,r,s,t,v,w,g,p,A,o,B,()) =
 Tree.cond (decide (i<(g.length:Int))) (.need (0<=i/\i<(g.length:Int)) (.need (List.length [(g.getD i.toNat (0,0,0,0)).1,(g.getD i.toNat (0,0,0,0)).2.1,(g.getD i.toNat (0,0,0,0)).2.2.1,(g.getD i.toNat (0,0,0,0)).2.2.2]<=100) (.need ((↑(ByteArray.size b):Int)+(↑(ByteArray.size (strOfNums (bysN [(g.getD i.toNat (0,0,0,0)).1,(g.getD i.toNat (0,0,0,0)).2.1,(g.getD i.toNat (0,0,0,0)).2.2.1,(g.getD i.toNat (0,0,0,0)).2.2.2]))):Int)<=9223372036854775807) (.leaf (Sum.inl (l,(),b++strOfNums (bysN [(g.getD i.toNat (0,0,0,0)).1,(g.getD i.toNat (0,0,0,0)).2.1,(g.getD i.toNat (0,0,0,0)).2.2.1,(g.getD i.toNat (0,0,0,0)).2.2.2]),IntKind.i64.wrap (i+1),r,s,t,v,w,g,p,A,o,B,())))))) (.leaf (Sum.inr (Exit.exit 0,Lay.st L_rwr0_0 noU (l,(),b,r,s,t,v,w,g,p,A,o,B,())))):=by kernel_rfl
def inv_rwr0:AeJ1->Prop:=fun(_,_,b,i,_,_,_,_,_,g,_)=>0<=i/\i<=g.length/\g.length<=1000/\(b.size:Int)<=1000+32*i
def O_rwr0:AeJ1->Tree (Exit×St):=fun(l,_,b,i,r,s,t,v,w,g,p,A,o,B,_)=>(.leaf (.exit 0,L_rwr0_0.st noU (l,(),(addN b (elsN (g.drop i.toNat))),r,s,t,v,w,g,p,A,o,B,())))
def R_rwr0:jA:=zY 170 L_rwr0 (fun x=>x) inv_rwr0 O_rwr0
theorem K_rwr0:zL P [] 170 none noU C_rwr0 R_rwr0:=by
 refine zM hm (cx:=[c_rnumber.gc]) [] (xl:=X_rwr0) (α:=AeJ1) (fun x=>x) (fun(_,_,_,i,_,_,_,_,_,g,_)=>(g.length - i).toNat) (fun _=>rfl) (by kernel_rfl) (by kernel_rfl) ?_ (by kernel_rfl) trivial ?_
 ·intro e S L' h
  unfold X_rwr0 at h
  split at h<;>cases h<;>kernel_rfl
 ·rintro⟨l,⟨⟩,b,i,r,s,t,v,w,g,p,A,o,B,⟨⟩⟩ hinv Q hQ
  refine zF (B_rwr0 l b i r s t v w g p A o B) ?_
  obtain⟨h0,h1,h2,h3⟩:=hinv
  rw[jK (n:=i+1) (by omega) (by omega)]
  unfold O_rwr0 at hQ
  dsimp only at hQ
  refine⟨fun c1=>?_,fun c1=>?_⟩
  ·have c1:=dcT c1
   rw[zS (0,0,0,0) h0 c1,elsN,show ∀(a b c d:Int)(y:List Int),a::b::c::d::y=[a,b,c,d]++y from fun _ _ _ _ _=>rfl,<- addN_cat] at hQ
   refine⟨⟨h0,c1⟩,by simp only[List.length_cons,List.length_nil];omega,by rw[strOfNums_size,bysN_len];simp only[List.length_cons,List.length_nil];omega,⟨⟨by omega,by omega,h2,?_⟩,by show ((g.length:Int) - (i+1)).toNat<((g.length:Int) - i).toNat;omega⟩,hQ⟩
   rw[ByteArray.size_append,strOfNums_size,bysN_len]
   simp only[List.length_cons,List.length_nil];omega
  ·rw[zR (dcF c1),elsN,addN_nil] at hQ
   exact hQ
def L_rwr4:Lay:={ slots:=[(1,.val (.sl (.pair tI (.pair tI (.pair tI tV))))),(2,.ptr 3170 0),(5,.val .str),(8,.val tI),(9,.val tIs),(10,.val tI)],boxes:=[(3170,[.val tI,.val tI,.val tI,.val tI,.val tI,.val (.sl (.pair tI tV)),.val (.sl tIs),.val tI,.val (.sl (.pair tI (.pair tI (.pair tI .bool)))),.val tI])] }
def L_rwr4_0:Lay:={ slots:=[(1,.val (.sl (.pair tI (.pair tI (.pair tI tV))))),(2,.ptr 3170 0),(5,.val .str),(8,.val tI)],boxes:=[(3170,[.val tI,.val tI,.val tI,.val tI,.val tI,.val (.sl (.pair tI tV)),.val (.sl tIs),.val tI,.val (.sl (.pair tI (.pair tI (.pair tI .bool)))),.val tI])] }
def X_rwr4:Exit->St->Option Lay
 |.exit 4,_=>some L_rwr4_0
 |_,_=>none
abbrev C_rwr4:Code:=zQ (zN (zQ (zJ Tryz.f66) 2)) 4
abbrev AeJ2:Type:=List (Int×(Int×(Int×V)))×Unit×ByteArray×Int×List Int×Int×Int×Int×Int×Int×Int×List (Int×V)×List (List Int)×Int×List (Int×(Int×(Int×Bool)))×Int×Unit
theorem B_rwr4(l:List (Int×(Int×(Int×V))))(b:ByteArray)(j:Int)(q:List Int)(k r s t v w:Int)(g:List (Int×V))(p:List (List Int))(A:Int)(o:List (Int×(Int×(Int×Bool))))(B:Int):zG (P:=P) [c_rnumber.gc] (zI []) [] 170 noU (zN C_rwr4) L_rwr4 X_rwr4 (α:=AeJ2) (fun x=>x) (fun x=>x) (l,(),b,j,q,k,r,s,t,v,w,g,p,A,o,B,()) =
 Tree.cond (decide (k<(q.length:Int))) (.need (0<=k/\k<(q.length:Int)) (.need (List.length [q.getD k.toNat 0]<=100) (.need ((↑(ByteArray.size b):Int)+(↑(ByteArray.size (strOfNums (bysN [q.getD k.toNat 0]))):Int)<=9223372036854775807) (.leaf (Sum.inl (l,(),b++strOfNums (bysN [q.getD k.toNat 0]),j,q,IntKind.i64.wrap (k+1),r,s,t,v,w,g,p,A,o,B,())))))) (.leaf (Sum.inr (Exit.exit 4,Lay.st L_rwr4_0 noU (l,(),b,j,r,s,t,v,w,g,p,A,o,B,())))):=by kernel_rfl
def inv_rwr4:AeJ2->Prop:=fun(_,_,b,_,q,k,_)=>0<=k/\k<=q.length/\q.length<=1000/\(b.size:Int)<=20000000+8*k
def O_rwr4:AeJ2->Tree (Exit×St):=fun(l,_,b,j,q,k,r,s,t,v,w,g,p,A,o,B,_)=>(.leaf (.exit 4,L_rwr4_0.st noU (l,(),(addN b (q.drop k.toNat)),j,r,s,t,v,w,g,p,A,o,B,())))
def R_rwr4:jA:=zY 170 L_rwr4 (fun x=>x) inv_rwr4 O_rwr4
theorem K_rwr4:zL P [] 170 none noU C_rwr4 R_rwr4:=by
 refine zM hm (cx:=[c_rnumber.gc]) [] (xl:=X_rwr4) (α:=AeJ2) (fun x=>x) (fun(_,_,_,_,q,k,_)=>(q.length - k).toNat) (fun _=>rfl) (by kernel_rfl) (by kernel_rfl) ?_ (by kernel_rfl) trivial ?_
 ·intro e S L' h
  unfold X_rwr4 at h
  split at h<;>cases h<;>kernel_rfl
 ·rintro⟨l,⟨⟩,b,j,q,k,r,s,t,v,w,g,p,A,o,B,⟨⟩⟩ hinv Q hQ
  refine zF (B_rwr4 l b j q k r s t v w g p A o B) ?_
  obtain⟨h0,h1,h2,h3⟩:=hinv
  rw[jK (n:=k+1) (by omega) (by omega)]
  unfold O_rwr4 at hQ
  dsimp only at hQ
  refine⟨fun c1=>?_,fun c1=>?_⟩
  ·have c1:=dcT c1
   rw[zS 0 h0 c1,show ∀(a:Int)(y:List Int),a::y=[a]++y from fun _ _=>rfl,<- addN_cat] at hQ
   refine⟨⟨h0,c1⟩,by simp only[List.length_cons,List.length_nil];omega,by rw[strOfNums_size,bysN_len];simp only[List.length_cons,List.length_nil];omega,⟨⟨by omega,by omega,h2,?_⟩,by show ((q.length:Int) - (k+1)).toNat<((q.length:Int) - k).toNat;omega⟩,hQ⟩
   rw[ByteArray.size_append,strOfNums_size,bysN_len]
   simp only[List.length_cons,List.length_nil];omega
  ·rw[zR (dcF c1),addN_nil] at hQ
   exact hQ
def L_rwr2:Lay:={ slots:=[(1,.val (.sl (.pair tI (.pair tI (.pair tI tV))))),(2,.ptr 3170 0),(5,.val .str),(8,.val tI)],boxes:=[(3170,[.val tI,.val tI,.val tI,.val tI,.val tI,.val (.sl (.pair tI tV)),.val (.sl tIs),.val tI,.val (.sl (.pair tI (.pair tI (.pair tI .bool)))),.val tI])] }
def L_rwr2_0:Lay:={ slots:=[(1,.val (.sl (.pair tI (.pair tI (.pair tI tV))))),(2,.ptr 3170 0),(5,.val .str)],boxes:=[(3170,[.val tI,.val tI,.val tI,.val tI,.val tI,.val (.sl (.pair tI tV)),.val (.sl tIs),.val tI,.val (.sl (.pair tI (.pair tI (.pair tI .bool)))),.val tI])] }
def X_rwr2:Exit->St->Option Lay
 |.exit 2,_=>some L_rwr2_0
 |_,_=>none
abbrev C_rwr2:Code:=zQ (zJ Tryz.f66) 2
theorem B_rwr2(l:List (Int×(Int×(Int×V))))(b:ByteArray)(j r s t v w:Int)(g:List (Int×V))(p:List (List Int))(A:Int)(o:List (Int×(Int×(Int×Bool))))(B:Int):zG (P:=P) [c_rnumber.gc] (zI [(4,R_rwr4)]) [] 170 noU (zN C_rwr2) L_rwr2 X_rwr2 (α:=AeJ1) (fun x=>x) (fun x=>x) (l,(),b,j,r,s,t,v,w,g,p,A,o,B,()) =
 Tree.cond (decide (j<(p.length:Int))) (.need (0<=j/\j<(p.length:Int)) (.need (List.length [(↑(List.length (p.getD j.toNat [])):Int)]<=100) (.need ((↑(ByteArray.size b):Int)+(↑(ByteArray.size (strOfNums (bysN [(↑(List.length (p.getD j.toNat [])):Int)]))):Int)<=9223372036854775807) (.need (inv_rwr4 (l,(),b++strOfNums (bysN [(↑(List.length (p.getD j.toNat [])):Int)]),j,p.getD j.toNat [],0,r,s,t,v,w,g,p,A,o,B,())) (.leaf (Sum.inl (l,(),addN (b++strOfNums (bysN [(↑(List.length (p.getD j.toNat [])):Int)])) (List.drop (Int.toNat 0) (p.getD j.toNat [])),IntKind.i64.wrap (j+1),r,s,t,v,w,g,p,A,o,B,()))))))) (.leaf (Sum.inr (Exit.exit 2,Lay.st L_rwr2_0 noU (l,(),b,r,s,t,v,w,g,p,A,o,B,())))):=by kernel_rfl
def inv_rwr2:AeJ1->Prop:=fun(_,_,b,j,_,_,_,_,_,_,p,_)=>0<=j/\j<=p.length/\p.length<=1000/\(∀y∈p,y.length<=1000)/\(b.size:Int)<=100000+8008*j
def O_rwr2:AeJ1->Tree (Exit×St):=fun(l,_,b,j,r,s,t,v,w,g,p,A,o,B,_)=>(.leaf (.exit 2,L_rwr2_0.st noU (l,(),(addN b (envsN (p.drop j.toNat))),r,s,t,v,w,g,p,A,o,B,())))
def R_rwr2:jA:=zY 170 L_rwr2 (fun x=>x) inv_rwr2 O_rwr2
theorem K_rwr2:zL P [] 170 none noU C_rwr2 R_rwr2:=by
 refine zM hm (cx:=[c_rnumber.gc]) [(4,R_rwr4)] (xl:=X_rwr2) (α:=AeJ1) (fun x=>x) (fun(_,_,_,j,_,_,_,_,_,_,p,_)=>(p.length - j).toNat) (fun _=>rfl) (by kernel_rfl) (by kernel_rfl) ?_ (by kernel_rfl) ⟨K_rwr4,trivial⟩ ?_
 ·intro e S L' h
  unfold X_rwr2 at h
  split at h<;>cases h<;>kernel_rfl
 ·rintro⟨l,⟨⟩,b,j,r,s,t,v,w,g,p,A,o,B,⟨⟩⟩ hinv Q hQ
  refine zF (B_rwr2 l b j r s t v w g p A o B) ?_
  obtain⟨h0,h1,h2,h3,h4⟩:=hinv
  rw[jK (n:=j+1) (by omega) (by omega)]
  unfold O_rwr2 at hQ
  dsimp only at hQ
  refine⟨fun c1=>?_,fun c1=>?_⟩
  ·have c1:=dcT c1
   have h5:=h3 _ (getD_mem (d:=([]:List Int)) (show j.toNat<p.length by omega))
   rw[zS [] h0 c1,envsN,show ∀(a:Int)(y:List Int),a::y=[a]++y from fun _ _=>rfl,<- addN_cat,<- addN_cat] at hQ
   refine⟨⟨h0,c1⟩,by simp only[List.length_cons,List.length_nil];omega,by rw[strOfNums_size,bysN_len];simp only[List.length_cons,List.length_nil];omega,⟨by decide,by omega,h5,?_⟩,⟨⟨by omega,by omega,h2,h3,?_⟩,by show ((p.length:Int) - (j+1)).toNat<((p.length:Int) - j).toNat;omega⟩,hQ⟩
   ·rw[ByteArray.size_append,strOfNums_size,bysN_len]
    simp only[List.length_cons,List.length_nil];omega
   ·rw[addN_size,ByteArray.size_append,strOfNums_size,bysN_len,show List.drop (Int.toNat 0) (p.getD j.toNat [])=p.getD j.toNat [] from rfl]
    simp only[List.length_cons,List.length_nil];omega
  ·rw[zR (dcF c1),envsN,addN_nil] at hQ
   exact hQ
def L_rwr6:Lay:={ slots:=[(1,.val (.sl (.pair tI (.pair tI (.pair tI tV))))),(2,.ptr 3170 0),(5,.val .str),(11,.val tI)],boxes:=[(3170,[.val tI,.val tI,.val tI,.val tI,.val tI,.val (.sl (.pair tI tV)),.val (.sl tIs),.val tI,.val (.sl (.pair tI (.pair tI (.pair tI .bool)))),.val tI])] }
def L_rwr6_0:Lay:={ slots:=[(1,.val (.sl (.pair tI (.pair tI (.pair tI tV))))),(2,.ptr 3170 0),(5,.val .str)],boxes:=[(3170,[.val tI,.val tI,.val tI,.val tI,.val tI,.val (.sl (.pair tI tV)),.val (.sl tIs),.val tI,.val (.sl (.pair tI (.pair tI (.pair tI .bool)))),.val tI])] }
def X_rwr6:Exit->St->Option Lay
 |.exit 6,_=>some L_rwr6_0
 |_,_=>none
abbrev C_rwr6:Code:=zQ (zJ Tryz.f66) 6
theorem B_rwr6(l:List (Int×(Int×(Int×V))))(b:ByteArray)(m r s t v w:Int)(g:List (Int×V))(p:List (List Int))(A:Int)(o:List (Int×(Int×(Int×Bool))))(B:Int):zG (P:=P) [c_rnumber.gc,c_rone.gc] (zI []) [] 170 noU (zN C_rwr6) L_rwr6 X_rwr6 (α:=AeJ1) (fun x=>x) (fun x=>x) (l,(),b,m,r,s,t,v,w,g,p,A,o,B,()) =
 Tree.cond (decide (m<(o.length:Int))) (.need (0<=m/\m<(o.length:Int)) (.need (List.length [(o.getD m.toNat (0,0,0,false)).1,(o.getD m.toNat (0,0,0,false)).2.1,(o.getD m.toNat (0,0,0,false)).2.2.1,oneS (o.getD m.toNat (0,0,0,false)).2.2.2]<=100) (.need ((↑(ByteArray.size b):Int)+(↑(ByteArray.size (strOfNums (bysN [(o.getD m.toNat (0,0,0,false)).1,(o.getD m.toNat (0,0,0,false)).2.1,(o.getD m.toNat (0,0,0,false)).2.2.1,oneS (o.getD m.toNat (0,0,0,false)).2.2.2]))):Int)<=9223372036854775807) (.leaf (Sum.inl (l,(),b++strOfNums (bysN [(o.getD m.toNat (0,0,0,false)).1,(o.getD m.toNat (0,0,0,false)).2.1,(o.getD m.toNat (0,0,0,false)).2.2.1,oneS (o.getD m.toNat (0,0,0,false)).2.2.2]),IntKind.i64.wrap (m+1),r,s,t,v,w,g,p,A,o,B,())))))) (.leaf (Sum.inr (Exit.exit 6,Lay.st L_rwr6_0 noU (l,(),b,r,s,t,v,w,g,p,A,o,B,())))):=by kernel_rfl
def inv_rwr6:AeJ1->Prop:=fun(_,_,b,m,_,_,_,_,_,_,_,_,o,_)=>0<=m/\m<=o.length/\o.length<=1000/\(b.size:Int)<=100000000+32*m
def O_rwr6:AeJ1->Tree (Exit×St):=fun(l,_,b,m,r,s,t,v,w,g,p,A,o,B,_)=>(.leaf (.exit 6,L_rwr6_0.st noU (l,(),(addN b (pmsN (o.drop m.toNat))),r,s,t,v,w,g,p,A,o,B,())))
def R_rwr6:jA:=zY 170 L_rwr6 (fun x=>x) inv_rwr6 O_rwr6
theorem K_rwr6:zL P [] 170 none noU C_rwr6 R_rwr6:=by
 refine zM hm (cx:=[c_rnumber.gc,c_rone.gc]) [] (xl:=X_rwr6) (α:=AeJ1) (fun x=>x) (fun(_,_,_,m,_,_,_,_,_,_,_,_,o,_)=>(o.length - m).toNat) (fun _=>rfl) (by kernel_rfl) (by kernel_rfl) ?_ (by kernel_rfl) trivial ?_
 ·intro e S L' h
  unfold X_rwr6 at h
  split at h<;>cases h<;>kernel_rfl
 ·rintro⟨l,⟨⟩,b,m,r,s,t,v,w,g,p,A,o,B,⟨⟩⟩ hinv Q hQ
  refine zF (B_rwr6 l b m r s t v w g p A o B) ?_
  obtain⟨h0,h1,h2,h3⟩:=hinv
  rw[jK (n:=m+1) (by omega) (by omega)]
  unfold O_rwr6 at hQ
  dsimp only at hQ
  refine⟨fun c1=>?_,fun c1=>?_⟩
  ·have c1:=dcT c1
   rw[zS (0,0,0,false) h0 c1,pmsN,show ∀(a b c d:Int)(y:List Int),a::b::c::d::y=[a,b,c,d]++y from fun _ _ _ _ _=>rfl,<- addN_cat] at hQ
   refine⟨⟨h0,c1⟩,by simp only[List.length_cons,List.length_nil];omega,by rw[strOfNums_size,bysN_len];simp only[List.length_cons,List.length_nil];omega,⟨⟨by omega,by omega,h2,?_⟩,by show ((o.length:Int) - (m+1)).toNat<((o.length:Int) - m).toNat;omega⟩,hQ⟩
   rw[ByteArray.size_append,strOfNums_size,bysN_len]
   simp only[List.length_cons,List.length_nil];omega
  ·rw[zR (dcF c1),pmsN,addN_nil] at hQ
   exact hQ
def L_rwr8:Lay:={ slots:=[(1,.val (.sl (.pair tI (.pair tI (.pair tI tV))))),(5,.val .str),(13,.val tI)] }
def L_rwr8_0:Lay:={ slots:=[(5,.val .str)] }
def X_rwr8:Exit->St->Option Lay
 |.exit 8,_=>some L_rwr8_0
 |_,_=>none
abbrev C_rwr8:Code:=zQ (zJ Tryz.f66) 8
abbrev AeJ3:Type:=List (Int×(Int×(Int×V)))×ByteArray×Int×Unit
theorem B_rwr8(l:List (Int×(Int×(Int×V))))(b:ByteArray)(u:Int):zG (P:=P) [c_rnumber.gc] (zI []) [] 170 noU (zN C_rwr8) L_rwr8 X_rwr8 (α:=AeJ3) (fun x=>x) (fun x=>x) (l,b,u,()) =
 Tree.cond (decide (u<(l.length:Int))) (.need (0<=u/\u<(l.length:Int)) (.need (List.length [(l.getD u.toNat (0,0,0,0,0,0)).1,(l.getD u.toNat (0,0,0,0,0,0)).2.1,(l.getD u.toNat (0,0,0,0,0,0)).2.2.1,(l.getD u.toNat (0,0,0,0,0,0)).2.2.2.1,(l.getD u.toNat (0,0,0,0,0,0)).2.2.2.2.1,(l.getD u.toNat (0,0,0,0,0,0)).2.2.2.2.2]<=100) (.need ((↑(ByteArray.size b):Int)+(↑(ByteArray.size (strOfNums (bysN [(l.getD u.toNat (0,0,0,0,0,0)).1,(l.getD u.toNat (0,0,0,0,0,0)).2.1,(l.getD u.toNat (0,0,0,0,0,0)).2.2.1,(l.getD u.toNat (0,0,0,0,0,0)).2.2.2.1,(l.getD u.toNat (0,0,0,0,0,0)).2.2.2.2.1,(l.getD u.toNat (0,0,0,0,0,0)).2.2.2.2.2]))):Int)<=9223372036854775807) (.leaf (Sum.inl (l,b++strOfNums (bysN [(l.getD u.toNat (0,0,0,0,0,0)).1,(l.getD u.toNat (0,0,0,0,0,0)).2.1,(l.getD u.toNat (0,0,0,0,0,0)).2.2.1,(l.getD u.toNat (0,0,0,0,0,0)).2.2.2.1,(l.getD u.toNat (0,0,0,0,0,0)).2.2.2.2.1,(l.getD u.toNat (0,0,0,0,0,0)).2.2.2.2.2]),IntKind.i64.wrap (u+1),())))))) (.leaf (Sum.inr (Exit.exit 8,Lay.st L_rwr8_0 noU (b,())))):=by kernel_rfl
def inv_rwr8:AeJ3->Prop:=fun(l,b,u,_)=>0<=u/\u<=l.length/\l.length<=1000/\(b.size:Int)<=200000000+48*u
def O_rwr8:AeJ3->Tree (Exit×St):=fun(l,b,u,_)=>(.leaf (.exit 8,L_rwr8_0.st noU ((addN b (ensN (l.drop u.toNat))),())))
def R_rwr8:jA:=zY 170 L_rwr8 (fun x=>x) inv_rwr8 O_rwr8
theorem K_rwr8:zL P [] 170 none noU C_rwr8 R_rwr8:=by
 refine zM hm (cx:=[c_rnumber.gc]) [] (xl:=X_rwr8) (α:=AeJ3) (fun x=>x) (fun(l,_,u,_)=>(l.length - u).toNat) (fun _=>rfl) (by kernel_rfl) (by kernel_rfl) ?_ (by kernel_rfl) trivial ?_
 ·intro e S L' h
  unfold X_rwr8 at h
  split at h<;>cases h<;>kernel_rfl
 ·rintro⟨l,b,u,⟨⟩⟩ hinv Q hQ
  refine zF (B_rwr8 l b u) ?_
  obtain⟨h0,h1,h2,h3⟩:=hinv
  rw[jK (n:=u+1) (by omega) (by omega)]
  unfold O_rwr8 at hQ
  dsimp only at hQ
  refine⟨fun c1=>?_,fun c1=>?_⟩
  ·have c1:=dcT c1
   rw[zS (0,0,0,0,0,0) h0 c1,ensN,show ∀(a b c d e f:Int)(y:List Int),a::b::c::d::e::f::y=[a,b,c,d,e,f]++y from fun _ _ _ _ _ _ _=>rfl,<- addN_cat] at hQ
   refine⟨⟨h0,c1⟩,by simp only[List.length_cons,List.length_nil];omega,by rw[strOfNums_size,bysN_len];simp only[List.length_cons,List.length_nil];omega,⟨⟨by omega,by omega,h2,?_⟩,by show ((l.length:Int) - (u+1)).toNat<((l.length:Int) - u).toNat;omega⟩,hQ⟩
   rw[ByteArray.size_append,strOfNums_size,bysN_len]
   simp only[List.length_cons,List.length_nil];omega
  ·rw[zR (dcF c1),ensN,addN_nil] at hQ
   exact hQ
theorem T_rwritten(E F G H I:Int)(C:List (Int×V))(D:List (List Int))(K:Int)(J:List (Int×(Int×(Int×Bool))))(L:Int)(l:List (Int×(Int×(Int×V)))):zU (P:=P) [c_rnumber.gc] (zI [(0,R_rwr0),(2,R_rwr2),(6,R_rwr6),(8,R_rwr8)]) Tryz.f66 (jM 0 [.agg (.pair tI (.pair tI (.pair tI (.pair tI (.pair tI (.pair (.pair (.sl (.pair tI tV)) (.pair (.sl tIs) tI)) (.pair (.sl (.pair tI (.pair tI (.pair tI .bool)))) tI))))))),.val (.sl (.pair tI (.pair tI (.pair tI tV))))] ((E,(F,(G,(H,(I,((C,(D,K)),(J,L))))))),l,())) =
 Tree.need (List.length [E,F,G,H,I,(C.length:Int)]<=100) (.need ((↑(ByteArray.size { data:=#[(109:UInt8),(112:UInt8),(108:UInt8),(49:UInt8)] }):Int)+(↑(ByteArray.size (strOfNums (bysN [E,F,G,H,I,(C.length:Int)]))):Int)<=9223372036854775807) (.need (inv_rwr0 (l,(),{ data:=#[(109:UInt8),(112:UInt8),(108:UInt8),(49:UInt8)] }++strOfNums (bysN [E,F,G,H,I,(C.length:Int)]),0,E,F,G,H,I,C,D,K,J,L,())) (.need (List.length [(D.length:Int)]<=100) (.need ((↑(ByteArray.size (addN ({ data:=#[(109:UInt8),(112:UInt8),(108:UInt8),(49:UInt8)] }++strOfNums (bysN [E,F,G,H,I,(C.length:Int)])) (elsN (List.drop (Int.toNat 0) C)))):Int)+(↑(ByteArray.size (strOfNums (bysN [(D.length:Int)]))):Int)<=9223372036854775807) (.need (inv_rwr2 (l,(),addN ({ data:=#[(109:UInt8),(112:UInt8),(108:UInt8),(49:UInt8)] }++strOfNums (bysN [E,F,G,H,I,(C.length:Int)])) (elsN (List.drop (Int.toNat 0) C))++strOfNums (bysN [(D.length:Int)]),0,E,F,G,H,I,C,D,K,J,L,())) (.need (List.length [K,(J.length:Int)]<=100) (.need ((↑(ByteArray.size (addN (addN ({ data:=#[(109:UInt8),(112:UInt8),(108:UInt8),(49:UInt8)] }++strOfNums (bysN [E,F,G,H,I,(C.length:Int)])) (elsN (List.drop (Int.toNat 0) C))++strOfNums (bysN [(D.length:Int)])) (envsN (List.drop (Int.toNat 0) D)))):Int)+(↑(ByteArray.size (strOfNums (bysN [K,(J.length:Int)]))):Int)<=9223372036854775807) (.need (inv_rwr6 (l,(),addN (addN ({ data:=#[(109:UInt8),(112:UInt8),(108:UInt8),(49:UInt8)] }++strOfNums (bysN [E,F,G,H,I,(C.length:Int)])) (elsN (List.drop (Int.toNat 0) C))++strOfNums (bysN [(D.length:Int)])) (envsN (List.drop (Int.toNat 0) D))++strOfNums (bysN [K,(J.length:Int)]),0,E,F,G,H,I,C,D,K,J,L,())) (.need (List.length [L,(l.length:Int)]<=100) (.need ((↑(ByteArray.size (addN (addN (addN ({ data:=#[(109:UInt8),(112:UInt8),(108:UInt8),(49:UInt8)] }++strOfNums (bysN [E,F,G,H,I,(C.length:Int)])) (elsN (List.drop (Int.toNat 0) C))++strOfNums (bysN [(D.length:Int)])) (envsN (List.drop (Int.toNat 0) D))++strOfNums (bysN [K,(J.length:Int)])) (pmsN (List.drop (Int.toNat 0) J)))):Int)+(↑(ByteArray.size (strOfNums (bysN [L,(l.length:Int)]))):Int)<=9223372036854775807) (.need (inv_rwr8 (l,addN (addN (addN ({ data:=#[(109:UInt8),(112:UInt8),(108:UInt8),(49:UInt8)] }++strOfNums (bysN [E,F,G,H,I,(C.length:Int)])) (elsN (List.drop (Int.toNat 0) C))++strOfNums (bysN [(D.length:Int)])) (envsN (List.drop (Int.toNat 0) D))++strOfNums (bysN [K,(J.length:Int)])) (pmsN (List.drop (Int.toNat 0) J))++strOfNums (bysN [L,(l.length:Int)]),0,())) (.leaf (SV.str (addN (addN (addN (addN ({ data:=#[(109:UInt8),(112:UInt8),(108:UInt8),(49:UInt8)] }++strOfNums (bysN [E,F,G,H,I,(C.length:Int)])) (elsN (List.drop (Int.toNat 0) C))++strOfNums (bysN [(D.length:Int)])) (envsN (List.drop (Int.toNat 0) D))++strOfNums (bysN [K,(J.length:Int)])) (pmsN (List.drop (Int.toNat 0) J))++strOfNums (bysN [L,(l.length:Int)])) (ensN (List.drop (Int.toNat 0) l)))))))))))))))):=by kernel_rfl
def c_rwritten:PC P:=PC.of (α:=(Int×(Int×(Int×(Int×(Int×((List (Int×V)×(List (List Int)×Int))×(List (Int×(Int×(Int×Bool)))×Int)))))))×List (Int×(Int×(Int×V)))×Unit) 66 [.agg (.pair tI (.pair tI (.pair tI (.pair tI (.pair tI (.pair (.pair (.sl (.pair tI tV)) (.pair (.sl tIs) tI)) (.pair (.sl (.pair tI (.pair tI (.pair tI .bool)))) tI))))))),.val (.sl (.pair tI (.pair tI (.pair tI tV))))] (fun x=>x) (fun x=>x) (fun _=>rfl)
 (fun x=>some (sOk x.1/\x.2.1.length<=1000))
 (fun x=>.str (strOfNums ([109,112,108,49]++bysN (numsS x.1 x.2.1)))) (by kernel_rfl) (by
  rintro⟨⟨E,⟨F,⟨G,⟨H,⟨I,⟨⟨C,⟨D,K⟩⟩,⟨J,L⟩⟩⟩⟩⟩⟩⟩,l,⟨⟩⟩ hp
  refine fn_of hm (by kernel_rfl) (by kernel_rfl) (T_rwritten E F G H I C D K J L l) ⟨K_rwr0,K_rwr2,K_rwr6,K_rwr8,trivial⟩ ?_
  try dsimp only at hp
  try dsimp only
  obtain⟨⟨⟨p1,p2,p3⟩,p4⟩,p5⟩:sOk (E,F,G,H,I,(C,D,K),J,L)/\l.length<=1000:=hp
  dsimp only at p1 p2 p3 p4
  have e0:∀{α:Type}(x:List α),List.drop (Int.toNat 0) x=x:=fun x=>rfl
  have l1:=elsN_len C
  have l2:=envsN_len D p3
  have l3:=pmsN_len J
  have e1:∀(b:ByteArray)(x:List Int),b++strOfNums (bysN x)=addN b x:=fun _ _=>rfl
  have e2:({ data:=#[(109:UInt8),(112:UInt8),(108:UInt8),(49:UInt8)] }:ByteArray)=strOfNums [109,112,108,49]:=rfl
  have z:∀(l:List Int),(strOfNums l).size=l.length:=strOfNums_size
  rw[e0,e0,e0,e0,e2]
  refine⟨?_,?_,⟨?_,?_,p1,?_⟩,?_,?_,⟨?_,?_,p2,p3,?_⟩,?_,?_,⟨?_,?_,p4,?_⟩,?_,?_,⟨?_,?_,p5,?_⟩,?_⟩
  rotate_right
  ·refine congrArg SV.str ?_
   rw[e1,e1,e1,e1,addN_cat,addN_cat,addN_cat,addN_cat,addN_cat,addN_cat,addN_cat,addN_str]
   unfold numsS
   simp only[List.append_assoc]
  all_goals
   first
    |omega
    |(simp only[addN_size,ByteArray.size_append,z,bysN_len,List.length_cons,List.length_nil];omega))
end
end Go.MB
