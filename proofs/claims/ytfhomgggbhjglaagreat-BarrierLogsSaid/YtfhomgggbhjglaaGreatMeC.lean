/- Logs: the numbers of a site and entries, as the program lists them. -/
import Derived.Test.YtfhomgggbhjglaaGreatMuG
import Derived.Test.YtfhomgggbhjglaaGreatMeA
namespace Go.MB
open Go Go.Sx Go.Proofs
set_option linter.unusedVariables false
set_option linter.unusedSimpArgs false
noncomputable section
def elsN:List E4->List Int
 | []=>[]
 |e::r=>e.1::e.2.1::e.2.2.1::e.2.2.2::elsN r
def envsN:List (List Int)->List Int
 | []=>[]
 |q::r=>(q.length:Int)::(q++envsN r)
def oneS(b:Bool):Int:=if b=true then 1 else 0
def pmsN:List Pm->List Int
 | []=>[]
 |p::r=>p.1::p.2.1::p.2.2.1::oneS p.2.2.2::pmsN r
def ensN:List zP->List Int
 | []=>[]
 |e::r=>e.1::e.2.1::e.2.2.1::e.2.2.2.1::e.2.2.2.2.1::e.2.2.2.2.2::ensN r
def numsS(s:zX)(l:List zP):List Int :=
 [s.1,s.2.1,s.2.2.1,s.2.2.2.1,s.2.2.2.2.1,(s.2.2.2.2.2.1.1.length:Int)]++elsN s.2.2.2.2.2.1.1++[(s.2.2.2.2.2.1.2.1.length:Int)]++envsN s.2.2.2.2.2.1.2.1++[s.2.2.2.2.2.1.2.2,(s.2.2.2.2.2.2.1.length:Int)]++pmsN s.2.2.2.2.2.2.1++[s.2.2.2.2.2.2.2,(l.length:Int)]++ensN l
theorem elsN_len:∀l:List E4,(elsN l).length=4*l.length
 | []=>rfl
 |e::r=>by simp only[elsN,List.length_cons,elsN_len r];omega
theorem envsN_len:∀l:List (List Int),(∀q∈l,q.length<=1000)->(envsN l).length<=1001*l.length
 | [],_=>Nat.le_refl _
 |q::r,h=>by
  have:=envsN_len r fun x hx=>h x (List.mem_cons_of_mem _ hx)
  have:=h q (List.mem_cons_self ..)
  simp only[envsN,List.length_cons,List.length_append];omega
theorem pmsN_len:∀l:List Pm,(pmsN l).length=4*l.length
 | []=>rfl
 |e::r=>by simp only[pmsN,List.length_cons,pmsN_len r];omega
theorem ensN_len:∀l:List zP,(ensN l).length=6*l.length
 | []=>rfl
 |e::r=>by simp only[ensN,List.length_cons,ensN_len r];omega
theorem T_one(b:Bool):zU (P:=P) [] (zI []) Tryz.f113 (jM 0 [.val .bool] (b,())) =
 Tree.cond b (.leaf (.int .i64 1)) (.leaf (.int .i64 0)):=by kernel_rfl
def c_one:PC P:=PC.of (α:=Bool×Unit) 113 [.val .bool] (fun x=>x) (fun x=>x) (fun _=>rfl)
 (fun _=>none)
 (fun x=>.int .i64 (oneS x.1)) (by kernel_rfl) (by
  rintro⟨b,⟨⟩⟩ hp
  refine fn_of hm (by kernel_rfl) (by kernel_rfl) (T_one b) trivial ?_
  try dsimp only at hp
  try dsimp only
  refine⟨fun c1=>?_,fun c1=>?_⟩
  ·rw[show b=true from c1];exact rfl
  ·rw[show b=false from c1];exact rfl)
def L_num0:Lay:={ slots:=[(1,.val (.sl (.pair tI (.pair tI (.pair tI tV))))),(2,.ptr 3142 0),(5,.row 2 tI),(33,.val (.sl (.pair tI tV))),(34,.val tI),(35,.val tI)],boxes:=[(3142,[.val tI,.val tI,.val tI,.val tI,.val tI,.val (.sl (.pair tI tV)),.val (.sl tIs),.val tI,.val (.sl (.pair tI (.pair tI (.pair tI .bool)))),.val tI])] }
def L_num0_0:Lay:={ slots:=[(1,.val (.sl (.pair tI (.pair tI (.pair tI tV))))),(2,.ptr 3142 0),(5,.row 2 tI)],boxes:=[(3142,[.val tI,.val tI,.val tI,.val tI,.val tI,.val (.sl (.pair tI tV)),.val (.sl tIs),.val tI,.val (.sl (.pair tI (.pair tI (.pair tI .bool)))),.val tI])] }
def X_num0:Exit->St->Option Lay
 |.exit 0,_=>some L_num0_0
 |_,_=>none
abbrev C_num0:Code:=zQ (zJ Tryz.f65) 0
abbrev AeC4:Type:=List (Int×(Int×(Int×V)))×Unit×List Int×List (Int×V)×Int×Int×Int×Int×Int×Int×Int×List (Int×V)×List (List Int)×Int×List (Int×(Int×(Int×Bool)))×Int×Unit
theorem B_num0(l:List (Int×(Int×(Int×V))))(out:List Int)(els:List (Int×V))(n i b2_0 b2_1 b2_2 b2_3 b2_4:Int)(b2_5:List (Int×V))(b2_6:List (List Int))(b2_7:Int)(b2_8:List (Int×(Int×(Int×Bool))))(b2_9:Int):zG (P:=P) [] (zI []) [] 142 noU (zN C_num0) L_num0 X_num0 (α:=AeC4) (fun x=>x) (fun x=>x) (l,(),out,els,n,i,b2_0,b2_1,b2_2,b2_3,b2_4,b2_5,b2_6,b2_7,b2_8,b2_9,()) =
 Tree.cond (decide (i<n)) (.need (0<=i/\i<(els.length:Int)) (.need ((out.length+List.length [(els.getD i.toNat (0,0,0,0)).1,(els.getD i.toNat (0,0,0,0)).2.1,(els.getD i.toNat (0,0,0,0)).2.2.1,(els.getD i.toNat (0,0,0,0)).2.2.2])*8<=140737488355328) (.leaf (Sum.inl (l,(),out++[(els.getD i.toNat (0,0,0,0)).1,(els.getD i.toNat (0,0,0,0)).2.1,(els.getD i.toNat (0,0,0,0)).2.2.1,(els.getD i.toNat (0,0,0,0)).2.2.2],els,n,IntKind.i64.wrap (i+1),b2_0,b2_1,b2_2,b2_3,b2_4,b2_5,b2_6,b2_7,b2_8,b2_9,()))))) (.leaf (Sum.inr (Exit.exit 0,Lay.st L_num0_0 noU (l,(),out,b2_0,b2_1,b2_2,b2_3,b2_4,b2_5,b2_6,b2_7,b2_8,b2_9,())))):=by kernel_rfl
def inv_num0:AeC4->Prop:=fun(_,_,out,els,n,i,_)=>n=els.length/\0<=i/\i<=n/\els.length<=1000/\(out.length:Int)<=10+4*i
def O_num0:AeC4->Tree (Exit×St):=fun(l,_,out,els,_,i,b2_0,b2_1,b2_2,b2_3,b2_4,b2_5,b2_6,b2_7,b2_8,b2_9,_)=>(.leaf (.exit 0,L_num0_0.st noU (l,(),(out++elsN (els.drop i.toNat)),b2_0,b2_1,b2_2,b2_3,b2_4,b2_5,b2_6,b2_7,b2_8,b2_9,())))
def R_num0:jA:=zY 142 L_num0 (fun x=>x) inv_num0 O_num0
theorem K_num0:zL P [] 142 none noU C_num0 R_num0:=by
 refine zM hm (cx:=[]) [] (xl:=X_num0) (α:=AeC4) (fun x=>x) (fun(_,_,_,_,n,i,_)=>(n - i).toNat) (fun _=>rfl) (by kernel_rfl) (by kernel_rfl) ?_ (by kernel_rfl) trivial ?_
 ·intro e S L' h
  unfold X_num0 at h
  split at h<;>cases h<;>kernel_rfl
 ·rintro⟨l,⟨⟩,out,els,n,i,b2_0,b2_1,b2_2,b2_3,b2_4,b2_5,b2_6,b2_7,b2_8,b2_9,⟨⟩⟩ hinv Q hQ
  refine zF (B_num0 l out els n i b2_0 b2_1 b2_2 b2_3 b2_4 b2_5 b2_6 b2_7 b2_8 b2_9) ?_
  obtain⟨rfl,h0,h1,h2,h3⟩:=hinv
  rw[jK (n:=i+1) (by omega) (by omega)]
  unfold O_num0 at hQ
  dsimp only at hQ
  refine⟨fun c1=>?_,fun c1=>?_⟩
  ·have c1:=dcT c1
   rw[zS ((0,0,0,0):E4) h0 c1,elsN,show ∀(x y:List Int)(a b c d:Int),x++a::b::c::d::y=x++[a,b,c,d]++y from fun x y a b c d=>by simp] at hQ
   exact⟨⟨h0,c1⟩,by simp only[List.length_cons,List.length_nil];omega,⟨⟨rfl,by omega,by omega,h2,by simp only[List.length_append,List.length_cons,List.length_nil];omega⟩,by show ((els.length:Int) - (i+1)).toNat<((els.length:Int) - i).toNat;omega⟩,hQ⟩
  ·rw[zR (dcF c1),elsN,List.append_nil] at hQ
   exact hQ
def L_num4:Lay:={ slots:=[(1,.val (.sl (.pair tI (.pair tI (.pair tI tV))))),(2,.ptr 3142 0),(5,.row 2 tI),(60,.val (.sl tIs)),(61,.val tI),(62,.val tI),(71,.val tIs),(72,.val tI),(73,.val tI)],boxes:=[(3142,[.val tI,.val tI,.val tI,.val tI,.val tI,.val (.sl (.pair tI tV)),.val (.sl tIs),.val tI,.val (.sl (.pair tI (.pair tI (.pair tI .bool)))),.val tI])] }
def L_num4_0:Lay:={ slots:=[(1,.val (.sl (.pair tI (.pair tI (.pair tI tV))))),(2,.ptr 3142 0),(5,.row 2 tI),(60,.val (.sl tIs)),(61,.val tI),(62,.val tI)],boxes:=[(3142,[.val tI,.val tI,.val tI,.val tI,.val tI,.val (.sl (.pair tI tV)),.val (.sl tIs),.val tI,.val (.sl (.pair tI (.pair tI (.pair tI .bool)))),.val tI])] }
def X_num4:Exit->St->Option Lay
 |.exit 4,_=>some L_num4_0
 |_,_=>none
abbrev C_num4:Code:=zQ (zN (zQ (zJ Tryz.f65) 2)) 4
abbrev AeC1:Type:=List (Int×(Int×(Int×V)))×Unit×List Int×List (List Int)×Int×Int×List Int×Int×Int×Int×Int×Int×Int×Int×List (Int×V)×List (List Int)×Int×List (Int×(Int×(Int×Bool)))×Int×Unit
theorem B_num4(l:List (Int×(Int×(Int×V))))(out:List Int)(envs:List (List Int))(m j:Int)(q:List Int)(c k b2_0 b2_1 b2_2 b2_3 b2_4:Int)(b2_5:List (Int×V))(b2_6:List (List Int))(b2_7:Int)(b2_8:List (Int×(Int×(Int×Bool))))(b2_9:Int):zG (P:=P) [] (zI []) [] 142 noU (zN C_num4) L_num4 X_num4 (α:=AeC1) (fun x=>x) (fun x=>x) (l,(),out,envs,m,j,q,c,k,b2_0,b2_1,b2_2,b2_3,b2_4,b2_5,b2_6,b2_7,b2_8,b2_9,()) =
 Tree.cond (decide (k<c)) (.need (0<=k/\k<(q.length:Int)) (.need ((out.length+List.length [q.getD k.toNat 0])*8<=140737488355328) (.leaf (Sum.inl (l,(),out++[q.getD k.toNat 0],envs,m,j,q,c,IntKind.i64.wrap (k+1),b2_0,b2_1,b2_2,b2_3,b2_4,b2_5,b2_6,b2_7,b2_8,b2_9,()))))) (.leaf (Sum.inr (Exit.exit 4,Lay.st L_num4_0 noU (l,(),out,envs,m,j,b2_0,b2_1,b2_2,b2_3,b2_4,b2_5,b2_6,b2_7,b2_8,b2_9,())))):=by kernel_rfl
def inv_num4:AeC1->Prop:=fun(_,_,out,_,_,_,q,c,k,_)=>c=q.length/\0<=k/\k<=c/\q.length<=1000/\(out.length:Int)<=100000000+k
def O_num4:AeC1->Tree (Exit×St):=fun(l,_,out,envs,m,j,q,_,k,b2_0,b2_1,b2_2,b2_3,b2_4,b2_5,b2_6,b2_7,b2_8,b2_9,_)=>(.leaf (.exit 4,L_num4_0.st noU (l,(),(out++q.drop k.toNat),envs,m,j,b2_0,b2_1,b2_2,b2_3,b2_4,b2_5,b2_6,b2_7,b2_8,b2_9,())))
def R_num4:jA:=zY 142 L_num4 (fun x=>x) inv_num4 O_num4
theorem K_num4:zL P [] 142 none noU C_num4 R_num4:=by
 refine zM hm (cx:=[]) [] (xl:=X_num4) (α:=AeC1) (fun x=>x) (fun(_,_,_,_,_,_,_,c,k,_)=>(c - k).toNat) (fun _=>rfl) (by kernel_rfl) (by kernel_rfl) ?_ (by kernel_rfl) trivial ?_
 ·intro e S L' h
  unfold X_num4 at h
  split at h<;>cases h<;>kernel_rfl
 ·rintro⟨l,⟨⟩,out,envs,m,j,q,c,k,b2_0,b2_1,b2_2,b2_3,b2_4,b2_5,b2_6,b2_7,b2_8,b2_9,⟨⟩⟩ hinv Q hQ
  refine zF (B_num4 l out envs m j q c k b2_0 b2_1 b2_2 b2_3 b2_4 b2_5 b2_6 b2_7 b2_8 b2_9) ?_
  obtain⟨rfl,h0,h1,h2,h3⟩:=hinv
  rw[jK (n:=k+1) (by omega) (by omega)]
  unfold O_num4 at hQ
  dsimp only at hQ
  refine⟨fun c1=>?_,fun c1=>?_⟩
  ·have c1:=dcT c1
   rw[zS (0:Int) h0 c1,List.append_cons] at hQ
   exact⟨⟨h0,c1⟩,by simp only[List.length_cons,List.length_nil];omega,⟨⟨rfl,by omega,by omega,h2,by simp only[List.length_append,List.length_cons,List.length_nil];omega⟩,by show ((q.length:Int) - (k+1)).toNat<((q.length:Int) - k).toNat;omega⟩,hQ⟩
  ·rw[zR (dcF c1),List.append_nil] at hQ
   exact hQ
def L_num2:Lay:={ slots:=[(1,.val (.sl (.pair tI (.pair tI (.pair tI tV))))),(2,.ptr 3142 0),(5,.row 2 tI),(60,.val (.sl tIs)),(61,.val tI),(62,.val tI)],boxes:=[(3142,[.val tI,.val tI,.val tI,.val tI,.val tI,.val (.sl (.pair tI tV)),.val (.sl tIs),.val tI,.val (.sl (.pair tI (.pair tI (.pair tI .bool)))),.val tI])] }
def L_num2_0:Lay:={ slots:=[(1,.val (.sl (.pair tI (.pair tI (.pair tI tV))))),(2,.ptr 3142 0),(5,.row 2 tI)],boxes:=[(3142,[.val tI,.val tI,.val tI,.val tI,.val tI,.val (.sl (.pair tI tV)),.val (.sl tIs),.val tI,.val (.sl (.pair tI (.pair tI (.pair tI .bool)))),.val tI])] }
def X_num2:Exit->St->Option Lay
 |.exit 2,_=>some L_num2_0
 |_,_=>none
abbrev C_num2:Code:=zQ (zJ Tryz.f65) 2
abbrev AeC3:Type:=List (Int×(Int×(Int×V)))×Unit×List Int×List (List Int)×Int×Int×Int×Int×Int×Int×Int×List (Int×V)×List (List Int)×Int×List (Int×(Int×(Int×Bool)))×Int×Unit
theorem B_num2(l:List (Int×(Int×(Int×V))))(out:List Int)(envs:List (List Int))(m j b2_0 b2_1 b2_2 b2_3 b2_4:Int)(b2_5:List (Int×V))(b2_6:List (List Int))(b2_7:Int)(b2_8:List (Int×(Int×(Int×Bool))))(b2_9:Int):zG (P:=P) [] (zI [(4,R_num4)]) [] 142 noU (zN C_num2) L_num2 X_num2 (α:=AeC3) (fun x=>x) (fun x=>x) (l,(),out,envs,m,j,b2_0,b2_1,b2_2,b2_3,b2_4,b2_5,b2_6,b2_7,b2_8,b2_9,()) =
 Tree.cond (decide (j<m)) (.need (0<=j/\j<(envs.length:Int)) (.need ((out.length+List.length [(↑(List.length (envs.getD j.toNat [])):Int)])*8<=140737488355328) (.need (inv_num4 (l,(),out++[(↑(List.length (envs.getD j.toNat [])):Int)],envs,m,j,envs.getD j.toNat [],(↑(List.length (envs.getD j.toNat [])):Int),0,b2_0,b2_1,b2_2,b2_3,b2_4,b2_5,b2_6,b2_7,b2_8,b2_9,())) (.leaf (Sum.inl (l,(),out++[(↑(List.length (envs.getD j.toNat [])):Int)]++List.drop (Int.toNat 0) (envs.getD j.toNat []),envs,m,IntKind.i64.wrap (j+1),b2_0,b2_1,b2_2,b2_3,b2_4,b2_5,b2_6,b2_7,b2_8,b2_9,())))))) (.leaf (Sum.inr (Exit.exit 2,Lay.st L_num2_0 noU (l,(),out,b2_0,b2_1,b2_2,b2_3,b2_4,b2_5,b2_6,b2_7,b2_8,b2_9,())))):=by kernel_rfl
def inv_num2:AeC3->Prop:=fun(_,_,out,envs,m,j,_)=>m=envs.length/\0<=j/\j<=m/\envs.length<=1000/\(∀x∈envs,x.length<=1000)/\(out.length:Int)<=10000+1001*j
def O_num2:AeC3->Tree (Exit×St):=fun(l,_,out,envs,_,j,b2_0,b2_1,b2_2,b2_3,b2_4,b2_5,b2_6,b2_7,b2_8,b2_9,_)=>(.leaf (.exit 2,L_num2_0.st noU (l,(),(out++envsN (envs.drop j.toNat)),b2_0,b2_1,b2_2,b2_3,b2_4,b2_5,b2_6,b2_7,b2_8,b2_9,())))
def R_num2:jA:=zY 142 L_num2 (fun x=>x) inv_num2 O_num2
theorem K_num2:zL P [] 142 none noU C_num2 R_num2:=by
 refine zM hm (cx:=[]) [(4,R_num4)] (xl:=X_num2) (α:=AeC3) (fun x=>x) (fun(_,_,_,_,m,j,_)=>(m - j).toNat) (fun _=>rfl) (by kernel_rfl) (by kernel_rfl) ?_ (by kernel_rfl) ⟨K_num4,trivial⟩ ?_
 ·intro e S L' h
  unfold X_num2 at h
  split at h<;>cases h<;>kernel_rfl
 ·rintro⟨l,⟨⟩,out,envs,m,j,b2_0,b2_1,b2_2,b2_3,b2_4,b2_5,b2_6,b2_7,b2_8,b2_9,⟨⟩⟩ hinv Q hQ
  refine zF (B_num2 l out envs m j b2_0 b2_1 b2_2 b2_3 b2_4 b2_5 b2_6 b2_7 b2_8 b2_9) ?_
  obtain⟨rfl,h0,h1,h2,h3,h4⟩:=hinv
  rw[jK (n:=j+1) (by omega) (by omega)]
  unfold O_num2 at hQ
  dsimp only at hQ
  refine⟨fun c1=>?_,fun c1=>?_⟩
  ·have c1:=dcT c1
   have hq:=h3 _ (getD_mem (d:=([]:List Int)) (show j.toNat<envs.length by omega))
   rw[zS ([]:List Int) h0 c1,envsN,List.append_cons,<- List.append_assoc] at hQ
   exact⟨⟨h0,c1⟩,by simp only[List.length_cons,List.length_nil];omega,⟨rfl,by decide,by omega,hq,by simp only[List.length_append,List.length_cons,List.length_nil];omega⟩,⟨⟨rfl,by omega,by omega,h2,h3,by show (((out++[((envs.getD j.toNat []).length:Int)]++envs.getD j.toNat []).length:Nat):Int)<=_;simp only[List.length_append,List.length_cons,List.length_nil];omega⟩,by show ((envs.length:Int) - (j+1)).toNat<((envs.length:Int) - j).toNat;omega⟩,hQ⟩
  ·rw[zR (dcF c1),envsN,List.append_nil] at hQ
   exact hQ
def L_num6:Lay:={ slots:=[(1,.val (.sl (.pair tI (.pair tI (.pair tI tV))))),(2,.ptr 3142 0),(5,.row 2 tI),(93,.val (.sl (.pair tI (.pair tI (.pair tI .bool))))),(94,.val tI),(95,.val tI)],boxes:=[(3142,[.val tI,.val tI,.val tI,.val tI,.val tI,.val (.sl (.pair tI tV)),.val (.sl tIs),.val tI,.val (.sl (.pair tI (.pair tI (.pair tI .bool)))),.val tI])] }
def L_num6_0:Lay:={ slots:=[(1,.val (.sl (.pair tI (.pair tI (.pair tI tV))))),(2,.ptr 3142 0),(5,.row 2 tI)],boxes:=[(3142,[.val tI,.val tI,.val tI,.val tI,.val tI,.val (.sl (.pair tI tV)),.val (.sl tIs),.val tI,.val (.sl (.pair tI (.pair tI (.pair tI .bool)))),.val tI])] }
def X_num6:Exit->St->Option Lay
 |.exit 6,_=>some L_num6_0
 |_,_=>none
abbrev C_num6:Code:=zQ (zJ Tryz.f65) 6
abbrev AeC2:Type:=List (Int×(Int×(Int×V)))×Unit×List Int×List (Int×(Int×(Int×Bool)))×Int×Int×Int×Int×Int×Int×Int×List (Int×V)×List (List Int)×Int×List (Int×(Int×(Int×Bool)))×Int×Unit
theorem B_num6(l:List (Int×(Int×(Int×V))))(out:List Int)(pms:List (Int×(Int×(Int×Bool))))(d t b2_0 b2_1 b2_2 b2_3 b2_4:Int)(b2_5:List (Int×V))(b2_6:List (List Int))(b2_7:Int)(b2_8:List (Int×(Int×(Int×Bool))))(b2_9:Int):zG (P:=P) [c_one.gc] (zI []) [] 142 noU (zN C_num6) L_num6 X_num6 (α:=AeC2) (fun x=>x) (fun x=>x) (l,(),out,pms,d,t,b2_0,b2_1,b2_2,b2_3,b2_4,b2_5,b2_6,b2_7,b2_8,b2_9,()) =
 Tree.cond (decide (t<d)) (.need (0<=t/\t<(pms.length:Int)) (.need ((out.length+List.length [(pms.getD t.toNat (0,0,0,false)).1,(pms.getD t.toNat (0,0,0,false)).2.1,(pms.getD t.toNat (0,0,0,false)).2.2.1,oneS (pms.getD t.toNat (0,0,0,false)).2.2.2])*8<=140737488355328) (.leaf (Sum.inl (l,(),out++[(pms.getD t.toNat (0,0,0,false)).1,(pms.getD t.toNat (0,0,0,false)).2.1,(pms.getD t.toNat (0,0,0,false)).2.2.1,oneS (pms.getD t.toNat (0,0,0,false)).2.2.2],pms,d,IntKind.i64.wrap (t+1),b2_0,b2_1,b2_2,b2_3,b2_4,b2_5,b2_6,b2_7,b2_8,b2_9,()))))) (.leaf (Sum.inr (Exit.exit 6,Lay.st L_num6_0 noU (l,(),out,b2_0,b2_1,b2_2,b2_3,b2_4,b2_5,b2_6,b2_7,b2_8,b2_9,())))):=by kernel_rfl
def inv_num6:AeC2->Prop:=fun(_,_,out,pms,d,t,_)=>d=pms.length/\0<=t/\t<=d/\pms.length<=1000/\(out.length:Int)<=2000000+4*t
def O_num6:AeC2->Tree (Exit×St):=fun(l,_,out,pms,_,t,b2_0,b2_1,b2_2,b2_3,b2_4,b2_5,b2_6,b2_7,b2_8,b2_9,_)=>(.leaf (.exit 6,L_num6_0.st noU (l,(),(out++pmsN (pms.drop t.toNat)),b2_0,b2_1,b2_2,b2_3,b2_4,b2_5,b2_6,b2_7,b2_8,b2_9,())))
def R_num6:jA:=zY 142 L_num6 (fun x=>x) inv_num6 O_num6
theorem K_num6:zL P [] 142 none noU C_num6 R_num6:=by
 refine zM hm (cx:=[c_one.gc]) [] (xl:=X_num6) (α:=AeC2) (fun x=>x) (fun(_,_,_,_,d,t,_)=>(d - t).toNat) (fun _=>rfl) (by kernel_rfl) (by kernel_rfl) ?_ (by kernel_rfl) trivial ?_
 ·intro e S L' h
  unfold X_num6 at h
  split at h<;>cases h<;>kernel_rfl
 ·rintro⟨l,⟨⟩,out,pms,d,t,b2_0,b2_1,b2_2,b2_3,b2_4,b2_5,b2_6,b2_7,b2_8,b2_9,⟨⟩⟩ hinv Q hQ
  refine zF (B_num6 l out pms d t b2_0 b2_1 b2_2 b2_3 b2_4 b2_5 b2_6 b2_7 b2_8 b2_9) ?_
  obtain⟨rfl,h0,h1,h2,h3⟩:=hinv
  rw[jK (n:=t+1) (by omega) (by omega)]
  unfold O_num6 at hQ
  dsimp only at hQ
  refine⟨fun c1=>?_,fun c1=>?_⟩
  ·have c1:=dcT c1
   rw[zS ((0,0,0,false):Pm) h0 c1,pmsN,show ∀(x y:List Int)(a b c d:Int),x++a::b::c::d::y=x++[a,b,c,d]++y from fun x y a b c d=>by simp] at hQ
   exact⟨⟨h0,c1⟩,by simp only[List.length_cons,List.length_nil];omega,⟨⟨rfl,by omega,by omega,h2,by simp only[List.length_append,List.length_cons,List.length_nil];omega⟩,by show ((pms.length:Int) - (t+1)).toNat<((pms.length:Int) - t).toNat;omega⟩,hQ⟩
  ·rw[zR (dcF c1),pmsN,List.append_nil] at hQ
   exact hQ
def L_num8:Lay:={ slots:=[(5,.row 2 tI),(119,.val (.sl (.pair tI (.pair tI (.pair tI tV))))),(120,.val tI),(121,.val tI)] }
def L_num8_0:Lay:={ slots:=[(5,.row 2 tI)] }
def X_num8:Exit->St->Option Lay
 |.exit 8,_=>some L_num8_0
 |_,_=>none
abbrev C_num8:Code:=zQ (zJ Tryz.f65) 8
abbrev AeC5:Type:=List Int×List (Int×(Int×(Int×V)))×Int×Int×Unit
theorem B_num8(out:List Int)(es:List (Int×(Int×(Int×V))))(f u:Int):zG (P:=P) [] (zI []) [] 142 noU (zN C_num8) L_num8 X_num8 (α:=AeC5) (fun x=>x) (fun x=>x) (out,es,f,u,()) =
 Tree.cond (decide (u<f)) (.need (0<=u/\u<(es.length:Int)) (.need ((out.length+List.length [(es.getD u.toNat (0,0,0,0,0,0)).1,(es.getD u.toNat (0,0,0,0,0,0)).2.1,(es.getD u.toNat (0,0,0,0,0,0)).2.2.1,(es.getD u.toNat (0,0,0,0,0,0)).2.2.2.1,(es.getD u.toNat (0,0,0,0,0,0)).2.2.2.2.1,(es.getD u.toNat (0,0,0,0,0,0)).2.2.2.2.2])*8<=140737488355328) (.leaf (Sum.inl (out++[(es.getD u.toNat (0,0,0,0,0,0)).1,(es.getD u.toNat (0,0,0,0,0,0)).2.1,(es.getD u.toNat (0,0,0,0,0,0)).2.2.1,(es.getD u.toNat (0,0,0,0,0,0)).2.2.2.1,(es.getD u.toNat (0,0,0,0,0,0)).2.2.2.2.1,(es.getD u.toNat (0,0,0,0,0,0)).2.2.2.2.2],es,f,IntKind.i64.wrap (u+1),()))))) (.leaf (Sum.inr (Exit.exit 8,Lay.st L_num8_0 noU (out,())))):=by kernel_rfl
def inv_num8:AeC5->Prop:=fun(out,es,f,u,_)=>f=es.length/\0<=u/\u<=f/\es.length<=1000/\(out.length:Int)<=3000000+6*u
def O_num8:AeC5->Tree (Exit×St):=fun(out,es,_,u,_)=>(.leaf (.exit 8,L_num8_0.st noU ((out++ensN (es.drop u.toNat)),())))
def R_num8:jA:=zY 142 L_num8 (fun x=>x) inv_num8 O_num8
theorem K_num8:zL P [] 142 none noU C_num8 R_num8:=by
 refine zM hm (cx:=[]) [] (xl:=X_num8) (α:=AeC5) (fun x=>x) (fun(_,_,f,u,_)=>(f - u).toNat) (fun _=>rfl) (by kernel_rfl) (by kernel_rfl) ?_ (by kernel_rfl) trivial ?_
 ·intro e S L' h
  unfold X_num8 at h
  split at h<;>cases h<;>kernel_rfl
 ·rintro⟨out,es,f,u,⟨⟩⟩ hinv Q hQ
  refine zF (B_num8 out es f u) ?_
  obtain⟨rfl,h0,h1,h2,h3⟩:=hinv
  rw[jK (n:=u+1) (by omega) (by omega)]
  unfold O_num8 at hQ
  dsimp only at hQ
  refine⟨fun c1=>?_,fun c1=>?_⟩
  ·have c1:=dcT c1
   rw[zS ((0,0,0,0,0,0):zP) h0 c1,ensN,show ∀(x y:List Int)(a b c d e f:Int),x++a::b::c::d::e::f::y=x++[a,b,c,d,e,f]++y from fun x y a b c d e f=>by simp] at hQ
   exact⟨⟨h0,c1⟩,by simp only[List.length_cons,List.length_nil];omega,⟨⟨rfl,by omega,by omega,h2,by simp only[List.length_append,List.length_cons,List.length_nil];omega⟩,by show ((es.length:Int) - (u+1)).toNat<((es.length:Int) - u).toNat;omega⟩,hQ⟩
  ·rw[zR (dcF c1),ensN,List.append_nil] at hQ
   exact hQ
theorem T_numbers(w z A B C:Int)(g:List (Int×V))(o:List (List Int))(D:Int)(v:List (Int×(Int×(Int×Bool))))(E:Int)(l:List (Int×(Int×(Int×V)))):zU (P:=P) [] (zI [(0,R_num0),(2,R_num2),(6,R_num6),(8,R_num8)]) Tryz.f65 (jM 0 [.agg (.pair tI (.pair tI (.pair tI (.pair tI (.pair tI (.pair (.pair (.sl (.pair tI tV)) (.pair (.sl tIs) tI)) (.pair (.sl (.pair tI (.pair tI (.pair tI .bool)))) tI))))))),.val (.sl (.pair tI (.pair tI (.pair tI tV))))] ((w,(z,(A,(B,(C,((g,(o,D)),(v,E))))))),l,())) =
 Tree.need (inv_num0 (l,(),[w,z,A,B,C,(g.length:Int)],g,(g.length:Int),0,w,z,A,B,C,g,o,D,v,E,())) (.need ((List.length ([w,z,A,B,C,(g.length:Int)]++elsN (List.drop (Int.toNat 0) g))+List.length [(o.length:Int)])*8<=140737488355328) (.need (inv_num2 (l,(),[w,z,A,B,C,(g.length:Int)]++elsN (List.drop (Int.toNat 0) g)++[(o.length:Int)],o,(o.length:Int),0,w,z,A,B,C,g,o,D,v,E,())) (.need ((List.length ([w,z,A,B,C,(g.length:Int)]++elsN (List.drop (Int.toNat 0) g)++[(o.length:Int)]++envsN (List.drop (Int.toNat 0) o))+List.length [D,(v.length:Int)])*8<=140737488355328) (.need (inv_num6 (l,(),[w,z,A,B,C,(g.length:Int)]++elsN (List.drop (Int.toNat 0) g)++[(o.length:Int)]++envsN (List.drop (Int.toNat 0) o)++[D,(v.length:Int)],v,(v.length:Int),0,w,z,A,B,C,g,o,D,v,E,())) (.need ((List.length ([w,z,A,B,C,(g.length:Int)]++elsN (List.drop (Int.toNat 0) g)++[(o.length:Int)]++envsN (List.drop (Int.toNat 0) o)++[D,(v.length:Int)]++pmsN (List.drop (Int.toNat 0) v))+List.length [E,(l.length:Int)])*8<=140737488355328) (.need (inv_num8 ([w,z,A,B,C,(g.length:Int)]++elsN (List.drop (Int.toNat 0) g)++[(o.length:Int)]++envsN (List.drop (Int.toNat 0) o)++[D,(v.length:Int)]++pmsN (List.drop (Int.toNat 0) v)++[E,(l.length:Int)],l,(l.length:Int),0,())) (.leaf (.sl (Ty.int IntKind.i64) ([w,z,A,B,C,(g.length:Int)]++elsN (List.drop (Int.toNat 0) g)++[(o.length:Int)]++envsN (List.drop (Int.toNat 0) o)++[D,(v.length:Int)]++pmsN (List.drop (Int.toNat 0) v)++[E,(l.length:Int)]++ensN (List.drop (Int.toNat 0) l)))))))))):=by kernel_rfl
def c_numbers:PC P:=PC.of (α:=(Int×(Int×(Int×(Int×(Int×((List (Int×V)×(List (List Int)×Int))×(List (Int×(Int×(Int×Bool)))×Int)))))))×List (Int×(Int×(Int×V)))×Unit) 65 [.agg (.pair tI (.pair tI (.pair tI (.pair tI (.pair tI (.pair (.pair (.sl (.pair tI tV)) (.pair (.sl tIs) tI)) (.pair (.sl (.pair tI (.pair tI (.pair tI .bool)))) tI))))))),.val (.sl (.pair tI (.pair tI (.pair tI tV))))] (fun x=>x) (fun x=>x) (fun _=>rfl)
 (fun x=>some (sOk x.1/\x.2.1.length<=1000))
 (fun x=>.sl tI (numsS x.1 x.2.1)) (by kernel_rfl) (by
  rintro⟨⟨w,⟨z,⟨A,⟨B,⟨C,⟨⟨g,⟨o,D⟩⟩,⟨v,E⟩⟩⟩⟩⟩⟩⟩,l,⟨⟩⟩ hp
  refine fn_le hm (by kernel_rfl) (by kernel_rfl) (T_numbers w z A B C g o D v E l) ⟨K_num0,K_num2,K_num6,K_num8,trivial⟩ (by kernel_rfl) ?_
  try dsimp only at hp
  try dsimp only
  obtain⟨⟨⟨p1,p2,p3⟩,p4⟩,p5⟩:sOk (w,z,A,B,C,(g,o,D),v,E)/\l.length<=1000:=hp
  dsimp only at p1 p2 p3 p4
  have e0:∀{α:Type}(x:List α),List.drop (Int.toNat 0) x=x:=fun x=>rfl
  rw[e0,e0,e0,e0]
  have l1:=elsN_len g
  have l2:=envsN_len o p3
  have l3:=pmsN_len v
  refine⟨⟨rfl,by decide,by omega,p1,by show ((6:Nat):Int)<=10+4*0;decide⟩,?_,⟨rfl,by decide,by omega,p2,p3,?_⟩,?_,⟨rfl,by decide,by omega,p4,?_⟩,?_,⟨rfl,by decide,by omega,p5,?_⟩,rfl⟩
  all_goals
   simp only[List.length_append,List.length_cons,List.length_nil]
   omega)
end
end Go.MB
