/- When the rule ceases to hold: the program's walk. -/
import Derived.Test.YtfhomgggbhjglaaGreatMuN
import Derived.Test.YtfhomgggbhjglaaGreatMuL
namespace Go.MB
open Go Go.Sx Go.Proofs
set_option linter.unusedVariables false
set_option linter.unusedSimpArgs false
noncomputable section
def pK(h:Hs)(press:Int)(t:Int):Bool:=!zQ h t press
def L_broken1:Lay:={ slots:=[(0,.val tI),(1,.ptr 1 0),(2,.ptr 2 0)],boxes:=[(1,[.val (.sl (.pair tI tV)),.val (.sl tIs),.val tI]),(2,[.val tI])] }
theorem T_broken1(t:Int)(a:List (Int×V))(b:List (List Int))(f j:Int):jG (P:=P) [c_holds.gc] (zH []) Tryz.f129 L_broken1 true (t,(),(),a,b,f,j,()) =
 Tree.need (zB (a,b,f)=0) (.leaf { res:=.bool !zQ (a,b,f) t j,boxes:=[[.sl (Ty.pair tI tV) a,.sl tIs b,.int .i64 f],[.int .i64 j]] }):=by kernel_rfl
def c_broken1:MC P:=MC.of (α:=Int×Unit×Unit×List (Int×V)×List (List Int)×Int×Int×Unit) 129 L_broken1 (fun x=>x) (fun x=>x) (fun _=>rfl)
 (fun x=>some (zB (x.2.2.2.1,x.2.2.2.2.1,x.2.2.2.2.2.1)=0))
 (fun x=>⟨.bool (pK (x.2.2.2.1,x.2.2.2.2.1,x.2.2.2.2.2.1) x.2.2.2.2.2.2.1 x.1),[[.sl tEl x.2.2.2.1,.sl tIs x.2.2.2.2.1,.int .i64 x.2.2.2.2.2.1],[.int .i64 x.2.2.2.2.2.2.1]],[]⟩) (by kernel_rfl) (by kernel_rfl) (by kernel_rfl) (by
  rintro⟨t,⟨⟩,⟨⟩,a,b,f,j,⟨⟩⟩ hp
  refine yG hm (own:=true) (by kernel_rfl) (by kernel_rfl) (by kernel_rfl) (T_broken1 t a b f j) trivial ?_
  try dsimp only at hp
  try dsimp only
  have h:zB (a,b,f)=0:=hp
  exact⟨h,rfl⟩)
def fO:Lay:={ slots:=[(0,.val (.sl tI)),(1,.clo 129 [(1,0),(2,0)])],boxes:=[(1,[.val tEls,.val gR,.val tI]),(2,[.val tI])] }
def L_ixTL:Lay:={ slots:=[(0,.val (.sl tI)),(1,.clo 129 [(1,0),(2,0)]),(7,.val tI),(8,.val tI)],boxes:=[(1,[.val tEls,.val gR,.val tI]),(2,[.val tI])] }
def L_ixTL_0:Lay:={ slots:=[],boxes:=[(1,[.val tEls,.val gR,.val tI]),(2,[.val tI])] }
def L_ixTL_1:Lay:={ slots:=[(4,.val tI)],boxes:=[(1,[.val tEls,.val gR,.val tI]),(2,[.val tI])] }
def X_ixTL:Exit->St->Option Lay
 |.exit 0,_=>some L_ixTL_0
 |.ret,_=>some L_ixTL_1
 |_,_=>none
abbrev C_ixTL:Code:=jH (zJ Tryz.f128) 0
abbrev AuO2:Type:=List Int×Unit×Int×Int×List E4×List (List Int)×Int×Int×Unit
theorem B_ixTL(l:List Int)(n i:Int)(a:List E4)(b:List (List Int))(f:Int)(j:Int):zF (P:=P) [c_broken1.gc] (zH []) [] 19 (usd noU (fO.ids++jC v_ fO.shs)) (jI C_ixTL) L_ixTL X_ixTL (α:=AuO2) (fun x=>x) (fun x=>x) (l,(),n,i,a,b,f,j,()) =
 Tree.cond (decide (i<n)) (.need (0<=i/\i<(l.length:Int)) (.need (zB (a,b,f)=0) (.cond (pK (a,b,f) j (l.getD i.toNat 0)) (.leaf (Sum.inr (Exit.ret,Lay.st L_ixTL_1 (usd noU (Lay.ids fO++jC v_ (Lay.shs fO))) (i,a,b,f,j,())))) (.leaf (Sum.inl (l,(),n,IntKind.i64.wrap (i+1),a,b,f,j,())))))) (.leaf (Sum.inr (Exit.exit 0,Lay.st L_ixTL_0 (usd noU (Lay.ids fO++jC v_ (Lay.shs fO))) (a,b,f,j,())))):=by kernel_rfl
def inv_ixTL:AuO2->Prop:=fun(l,_,n,i,a,b,f,_)=>n=l.length/\0<=i/\i<=n/\(l.length:Int)<2 ^ 62/\∀x∈l,zB (a,b,f)=0
def O_ixTL:AuO2->Tree (Exit×St):=fun(l,_,_,i,a,b,f,j,_)=>.cond ((l.drop i.toNat).any (pK (a,b,f) j)) (.leaf (.ret,L_ixTL_1.st (usd noU (fO.ids++jC v_ fO.shs)) (ixR (pK (a,b,f) j) l i,a,b,f,j,()))) (.leaf (.exit 0,L_ixTL_0.st (usd noU (fO.ids++jC v_ fO.shs)) (a,b,f,j,())))
def R_ixTL:jS:=j_ 19 L_ixTL (fun x=>x) inv_ixTL O_ixTL
theorem K_ixTL:zU P [] 19 none (usd noU (fO.ids++jC v_ fO.shs)) C_ixTL R_ixTL:=by
 refine zT hm (cx:=[c_broken1.gc]) [] (xl:=X_ixTL) (α:=AuO2) (fun x=>x) (fun(_,_,n,i,_)=>(n - i).toNat) (fun _=>rfl) (by kernel_rfl) (by kernel_rfl) ?_ (by kernel_rfl) trivial ?_
 ·intro e S L' h
  unfold X_ixTL at h
  split at h<;>cases h<;>kernel_rfl
 ·rintro⟨l,⟨⟩,n,i,a,b,f,j,⟨⟩⟩ hinv Q hQ
  refine zD (B_ixTL l n i a b f j) ?_
  obtain⟨rfl,h0,h1,h2,h9⟩:=hinv
  rw[jZ (n:=i+1) (by omega) (by omega)]
  unfold O_ixTL at hQ
  dsimp only at hQ
  refine⟨fun hi=>?_,fun hi=>?_⟩
  ·simp only[decide_eq_true_eq] at hi
   have hm:((l.length:Int) - (i+1)).toNat<((l.length:Int) - i).toNat:=by omega
   obtain⟨e1,e2,e3⟩:=ix_step (p:=pK (a,b,f) j) (0:Int) h0 hi
   rw[e1] at hQ
   refine⟨⟨h0,hi⟩,h9 _ (jT (d:=(0:Int)) (show i.toNat<l.length by omega)),fun hp=>?_,fun hp=>?_⟩
   ·replace hp:(pK (a,b,f) j) (l.getD i.toNat (0:Int))=true:=hp
    rw[hp,Bool.true_or,e2 hp] at hQ
    exact hQ.1 rfl
   ·replace hp:(pK (a,b,f) j) (l.getD i.toNat (0:Int))=false:=hp
    rw[hp,Bool.false_or,e3 hp] at hQ
    exact⟨⟨⟨rfl,by omega,by omega,h2,h9⟩,hm⟩,hQ⟩
  ·simp only[decide_eq_false_iff_not] at hi
   rw[jB hi] at hQ
   exact hQ.2 rfl
def L_ixT:Lay:={ slots:=[(0,.val (.sl tI)),(1,.clo 129 [(1,0),(2,0)])],boxes:=[(1,[.val tEls,.val gR,.val tI]),(2,[.val tI])] }
theorem T_ixT(l:List Int)(a:List E4)(b:List (List Int))(f:Int)(j:Int):jG (P:=P) [] (zH [(0,R_ixTL)]) Tryz.f128 L_ixT true (l,(),a,b,f,j,()) =
 Tree.need (inv_ixTL (l,(),(l.length:Int),0,a,b,f,j,())) (.cond (List.any (List.drop (Int.toNat 0) l) (pK (a,b,f) j)) (.leaf { res:=.int .i64 (ixR (pK (a,b,f) j) l 0),boxes:=[[.sl tEl a,.sl tIs b,.int .i64 f],[.int .i64 j]] }) (.leaf { res:=.int .i64 (-1:Int),boxes:=[[.sl tEl a,.sl tIs b,.int .i64 f],[.int .i64 j]] })):=by kernel_rfl
def c_ixT:MC P:=MC.of (α:=List Int×Unit×List E4×List (List Int)×Int×Int×Unit) 128 L_ixT (fun x=>x) (fun x=>x) (fun _=>rfl)
 (fun(l,_,a,b,f,_)=>some ((l.length:Int)<2 ^ 62/\∀x∈l,zB (a,b,f)=0))
 (fun(l,_,a,b,f,j,_)=>⟨.int .i64 (ixS (pK (a,b,f) j) l),[[.sl tEl a,.sl tIs b,.int .i64 f],[.int .i64 j]],[]⟩) (by kernel_rfl) (by kernel_rfl) (by kernel_rfl) (by
  rintro⟨l,⟨⟩,a,b,f,j,⟨⟩⟩ hp
  refine yG hm (own:=true) (by kernel_rfl) (by kernel_rfl) (by kernel_rfl) (T_ixT l a b f j) ⟨K_ixTL,trivial⟩ ?_
  refine⟨⟨rfl,by omega,by omega,hp.1,hp.2⟩,fun h=>?_,fun h=>?_⟩
  ·simp only[Int.toNat_zero,List.drop_zero] at h
   have e:ixR (pK (a,b,f) j) l 0=ixS (pK (a,b,f) j) l:=by
    unfold ixS ixR
    rw[if_pos h]
    simp only[Int.toNat_zero,List.drop_zero,Int.zero_add]
   exact congrArg (fun k:Int=>(⟨.int .i64 k,[[.sl tEl a,.sl tIs b,.int .i64 f],[.int .i64 j]],[]⟩:MOut)) e
  ·simp only[Int.toNat_zero,List.drop_zero] at h
   have e : -1=ixS (pK (a,b,f) j) l:=by
    unfold ixS
    rw[if_neg (by simp only[h];decide)]
   exact congrArg (fun k:Int=>(⟨.int .i64 k,[[.sl tEl a,.sl tIs b,.int .i64 f],[.int .i64 j]],[]⟩:MOut)) e)
theorem elE_ok{e:E4}(h:elE e=0):(0<=e.2.1/\e.2.1<=68719476736)/\(0<=e.2.2.1/\e.2.2.1<=1099511627776)/\e.2.2.1<=e.2.2.2/\e.2.2.2<=2199023255552/\0<=e.1/\e.1<=3:=by
 unfold elE at h
 split at h
 ·cases h
 split at h
 ·cases h
 rename_i h1 h2
 have w1:wi e.2.1 0 68719476736=true:=by cases c:wi e.2.1 0 68719476736 with |true=>rfl |false=>exact absurd (.inl c) h2
 have w2:wi e.2.2.1 0 1099511627776=true:=by cases c:wi e.2.2.1 0 1099511627776 with |true=>rfl |false=>exact absurd (.inr (.inl c)) h2
 have w3:wi e.2.2.2 e.2.2.1 2199023255552=true:=by cases c:wi e.2.2.2 e.2.2.1 2199023255552 with |true=>rfl |false=>exact absurd (.inr (.inr c)) h2
 rw[qZ] at w1 w2 w3
 exact⟨w1,w2,w3.1,w3.2,by omega,by omega⟩
theorem ixS_lt{α:Type}{p:α->Bool}{l:List α}(h:l.any p=true):0<=ixS p l/\ixS p l<l.length:=by
 unfold ixS
 rw[if_pos h]
 have:=List.findIdx_lt_length_of_exists (List.any_eq_true.1 h)
 omega
def tkA(fr to:Int):List E4->List Int
 | []=>[]
 |e::r=>if wi (e.2.2.2+1) fr to=true then (e.2.2.2+1)::tkA fr to r else tkA fr to r
theorem tkA_step{fr to:Int}{l:List E4}{i:Int}(h0:0<=i) (h:i<l.length):tkA fr to (l.drop i.toNat)=if wi ((l.getD i.toNat (0,0,0,0)).2.2.2+1) fr to=true then ((l.getD i.toNat (0,0,0,0)).2.2.2+1)::tkA fr to (l.drop (i+1).toNat) else tkA fr to (l.drop (i+1).toNat):=by
 rw[jK (0,0,0,0) h0 h,tkA]
theorem tkA_len(fr to:Int):∀l:List E4,(tkA fr to l).length<=l.length
 | []=>Nat.le_refl _
 |e::r=>by
  have:=tkA_len fr to r
  rw[tkA,List.length_cons]
  split
  ·rw[List.length_cons];omega
  ·omega
def zAb(h:Hs)(fr to:Int):List Int:=isO ltI 0 (((fr::tkA fr to h.1).length:Int) - 1).toNat 1 (fr::tkA fr to h.1)
def xF(h:Hs)(fr to press:Int):Int×Bool:=if (zAb h fr to).any (pK h press)=true then ((zAb h fr to).getD (ixS (pK h press) (zAb h fr to)).toNat 0,true) else (0,false)
def L_brk0:Lay:={ slots:=[(1,.val tI),(2,.val tI),(4,.ptr 5047 0),(7,.ptr 8047 0),(10,.row 2 tI),(17,.val (.sl (.pair tI tV))),(18,.val tI),(19,.val tI)],boxes:=[(5047,[.val (.sl (.pair tI tV)),.val (.sl tIs),.val tI]),(8047,[.val tI])] }
def L_brk0_0:Lay:={ slots:=[(4,.ptr 5047 0),(7,.ptr 8047 0),(10,.row 2 tI)],boxes:=[(5047,[.val (.sl (.pair tI tV)),.val (.sl tIs),.val tI]),(8047,[.val tI])] }
def X_brk0:Exit->St->Option Lay
 |.exit 0,_=>some L_brk0_0
 |_,_=>none
abbrev C_brk0:Code:=jH (zJ Tryz.f92) 0
abbrev AuO1:Type:=Int×Int×Unit×Unit×List Int×List (Int×V)×Int×Int×List (Int×V)×List (List Int)×Int×Int×Unit
theorem B_brk0(fr to:Int)(ts:List Int)(l:List (Int×V))(n i:Int)(els:List (Int×V))(envs:List (List Int))(need press:Int):zF (P:=P) [wE.gc] (zH []) [] 47 noU (jI C_brk0) L_brk0 X_brk0 (α:=AuO1) (fun x=>x) (fun x=>x) (fr,to,(),(),ts,l,n,i,els,envs,need,press,()) =
 Tree.cond (decide (i<n)) (.need (0<=i/\i<(l.length:Int)) (.cond (wi (IntKind.i64.wrap ((l.getD i.toNat (0,0,0,0)).2.2.2+1)) fr to) (.need ((ts.length+List.length [IntKind.i64.wrap ((l.getD i.toNat (0,0,0,0)).2.2.2+1)])*8<=140737488355328) (.leaf (Sum.inl (fr,to,(),(),ts++[IntKind.i64.wrap ((l.getD i.toNat (0,0,0,0)).2.2.2+1)],l,n,IntKind.i64.wrap (i+1),els,envs,need,press,())))) (.leaf (Sum.inl (fr,to,(),(),ts,l,n,IntKind.i64.wrap (i+1),els,envs,need,press,()))))) (.leaf (Sum.inr (Exit.exit 0,Lay.st L_brk0_0 noU ((),(),ts,els,envs,need,press,())))):=by kernel_rfl
def inv_brk0:AuO1->Prop:=fun(_,_,_,_,ts,l,n,i,_)=>0<=i/\i<=n/\n=l.length/\(ts.length:Int)<=i+1/\l.length<=10/\∀e∈l,elE e=0
def O_brk0:AuO1->Tree (Exit×St):=fun(fr,to,_,_,ts,l,_,i,els,envs,need,press,_)=>(.leaf (.exit 0,L_brk0_0.st noU ((),(),(ts++tkA fr to (l.drop i.toNat)),els,envs,need,press,())))
def R_brk0:jS:=j_ 47 L_brk0 (fun x=>x) inv_brk0 O_brk0
theorem K_brk0:zU P [] 47 none noU C_brk0 R_brk0:=by
 refine zT hm (cx:=[wE.gc]) [] (xl:=X_brk0) (α:=AuO1) (fun x=>x) (fun(_,_,_,_,_,_,n,i,_)=>(n - i).toNat) (fun _=>rfl) (by kernel_rfl) (by kernel_rfl) ?_ (by kernel_rfl) trivial ?_
 ·intro e S L' h
  unfold X_brk0 at h
  split at h<;>cases h<;>kernel_rfl
 ·rintro⟨fr,to,⟨⟩,⟨⟩,ts,l,n,i,els,envs,need,press,⟨⟩⟩ hinv Q hQ
  refine zD (B_brk0 fr to ts l n i els envs need press) ?_
  obtain⟨h0,h1,rfl,h2,h3,h4⟩:=hinv
  rw[jZ (n:=i+1) (by omega) (by omega)]
  unfold O_brk0 at hQ
  dsimp only at hQ
  refine⟨fun c1=>?_,fun c1=>?_⟩
  ·have d1:=dcT c1
   obtain⟨_,b1,b2,b3,_⟩:=elE_ok (h4 _ (jT (d:=(0,0,0,0)) (show i.toNat<l.length by omega)))
   rw[tkA_step h0 d1] at hQ
   generalize l.getD i.toNat (0,0,0,0)=e at *
   rw[jZ (n:=e.2.2.2+1) (by omega) (by omega)]
   refine⟨⟨h0,d1⟩,fun c2=>?_,fun c2=>?_⟩
   ·rw[if_pos c2] at hQ
    refine⟨by simp only[List.length_cons,List.length_nil];omega,⟨⟨by omega,by omega,rfl,by simp only[List.length_append,List.length_cons,List.length_nil];omega,h3,h4⟩,by show ((l.length:Int) - (i+1)).toNat<((l.length:Int) - i).toNat;omega⟩,?_⟩
    unfold O_brk0
    dsimp only
    rw[List.append_assoc]
    exact hQ
   ·rw[if_neg (by rw[c2];decide)] at hQ
    exact⟨⟨⟨by omega,by omega,rfl,by omega,h3,h4⟩,by show ((l.length:Int) - (i+1)).toNat<((l.length:Int) - i).toNat;omega⟩,hQ⟩
  ·have d1:=dcF c1
   rw[jB d1,tkA,List.append_nil] at hQ
   exact hQ
theorem T_broken(h_0:List (Int×V))(h_1:List (List Int))(h_2 fr to press:Int):jD (P:=P) [c_Sort.gc,c_ixT.gc] (zH [(0,R_brk0)]) Tryz.f92 (z_ 0 [.agg (.pair (.sl (.pair tI tV)) (.pair (.sl tIs) tI)),.val tI,.val tI,.val tI] ((h_0,(h_1,h_2)),fr,to,press,())) =
 Tree.need (inv_brk0 (fr,to,(),(),[fr],h_0,(h_0.length:Int),0,h_0,h_1,h_2,press,())) (.need (List.length ([fr]++tkA fr to (List.drop (Int.toNat 0) h_0))<=12) (.need ((↑(List.length (isO ltI 0 (Int.toNat ((↑(List.length ([fr]++tkA fr to (List.drop (Int.toNat 0) h_0))):Int) - 1)) 1 ([fr]++tkA fr to (List.drop (Int.toNat 0) h_0)))):Int)<2 ^ 62/\∀(x:Int),x∈isO ltI 0 (Int.toNat ((↑(List.length ([fr]++tkA fr to (List.drop (Int.toNat 0) h_0))):Int) - 1)) 1 ([fr]++tkA fr to (List.drop (Int.toNat 0) h_0))->zB (h_0,h_1,h_2)=0) (.cond (decide (ixS (pK (h_0,h_1,h_2) press) (isO ltI 0 (Int.toNat ((↑(List.length ([fr]++tkA fr to (List.drop (Int.toNat 0) h_0))):Int) - 1)) 1 ([fr]++tkA fr to (List.drop (Int.toNat 0) h_0)))<0)) (.leaf (.tup [.int .i64 0,.bool false])) (.need (0<=ixS (pK (h_0,h_1,h_2) press) (isO ltI 0 (Int.toNat ((↑(List.length ([fr]++tkA fr to (List.drop (Int.toNat 0) h_0))):Int) - 1)) 1 ([fr]++tkA fr to (List.drop (Int.toNat 0) h_0)))/\ixS (pK (h_0,h_1,h_2) press) (isO ltI 0 (Int.toNat ((↑(List.length ([fr]++tkA fr to (List.drop (Int.toNat 0) h_0))):Int) - 1)) 1 ([fr]++tkA fr to (List.drop (Int.toNat 0) h_0)))<(↑(List.length (isO ltI 0 (Int.toNat ((↑(List.length ([fr]++tkA fr to (List.drop (Int.toNat 0) h_0))):Int) - 1)) 1 ([fr]++tkA fr to (List.drop (Int.toNat 0) h_0)))):Int)) (.leaf (.tup [.int .i64 (List.getD (isO ltI 0 (Int.toNat ((↑(List.length ([fr]++tkA fr to (List.drop (Int.toNat 0) h_0))):Int) - 1)) 1 ([fr]++tkA fr to (List.drop (Int.toNat 0) h_0))) (Int.toNat (ixS (pK (h_0,h_1,h_2) press) (isO ltI 0 (Int.toNat ((↑(List.length ([fr]++tkA fr to (List.drop (Int.toNat 0) h_0))):Int) - 1)) 1 ([fr]++tkA fr to (List.drop (Int.toNat 0) h_0))))) 0),.bool true])))))):=by kernel_rfl
def c_broken:PC P:=PC.of (α:=(List (Int×V)×(List (List Int)×Int))×Int×Int×Int×Unit) 92 [.agg (.pair (.sl (.pair tI tV)) (.pair (.sl tIs) tI)),.val tI,.val tI,.val tI] (fun x=>x) (fun x=>x) (fun _=>rfl)
 (fun x=>some (zB x.1=0))
 (fun x=>.tup [.int .i64 (xF x.1 x.2.1 x.2.2.1 x.2.2.2.1).1,.bool (xF x.1 x.2.1 x.2.2.1 x.2.2.2.1).2]) (by kernel_rfl) (by
  rintro⟨⟨h_0,⟨h_1,h_2⟩⟩,fr,to,press,⟨⟩⟩ hp
  refine yK hm (by kernel_rfl) (by kernel_rfl) (T_broken h_0 h_1 h_2 fr to press) ⟨K_brk0,trivial⟩ ?_
  try dsimp only at hp
  try dsimp only
  have he:zB (h_0,(h_1,h_2))=0:=hp
  have k:=yD he
  have k1:=k.e10
  have k2:=k.el
  dsimp only at k1 k2
  have e:isO ltI 0 ((([fr]++tkA fr to (List.drop (Int.toNat 0) h_0)).length:Int) - 1).toNat 1 ([fr]++tkA fr to (List.drop (Int.toNat 0) h_0))=zAb (h_0,(h_1,h_2)) fr to:=rfl
  rw[e]
  have l1:=tkA_len fr to h_0
  have l2:([fr]++tkA fr to (List.drop (Int.toNat 0) h_0)).length<=11:=by
   show (fr::tkA fr to h_0).length<=11
   rw[List.length_cons];omega
  have l3:(zAb (h_0,(h_1,h_2)) fr to).length<=11:=by
   unfold zAb
   rw[isO_len]
   exact l2
  show Tree.holds (fun s=>s=SV.tup [.int .i64 (xF (h_0,(h_1,h_2)) fr to press).1,.bool (xF (h_0,(h_1,h_2)) fr to press).2]) _
  unfold xF
  have g:=ixS_ge (pK (h_0,(h_1,h_2)) press) (zAb (h_0,(h_1,h_2)) fr to)
  refine⟨⟨by decide,by omega,rfl,by show ((1:Nat):Int)<=0+1;decide,k1,k2⟩,by omega,⟨by omega,fun _ _=>he⟩,fun c1=>?_,fun c1=>?_⟩
  ·have c1:=dcT c1
   rw[decide_eq_false (by omega)] at g
   rw[if_neg (by rw[<- g];decide)]
   exact rfl
  ·have c1:=dcF c1
   rw[decide_eq_true (by omega)] at g
   rw[if_pos g.symm]
   exact⟨ixS_lt g.symm,rfl⟩)
end
end Go.MB
