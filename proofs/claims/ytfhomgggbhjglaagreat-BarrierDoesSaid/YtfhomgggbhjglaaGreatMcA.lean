/- The reference's sites: which are valid, and what it reads of them. -/
import Derived.Test.YtfhomgggbhjglaaGreatMuAa
namespace Go.MB
open Go Go.Sx Go.Proofs
set_option linter.unusedVariables false
set_option linter.unusedSimpArgs false
noncomputable section
def pX(l:List Pm)(i:Int):Int:=if i>0 then (l.getD (i - 1).toNat (0,0,0,false)).1 else -1
theorem T_rcrew(q o v u r:Int)(f:List (Int×V))(g:List (List Int))(m:Int)(d:List (Int×(Int×(Int×Bool))))(t who:Int):jD (P:=P) [] (zH []) Tryz.f62 (z_ 0 [.agg (.pair tI (.pair tI (.pair tI (.pair tI (.pair tI (.pair (.pair (.sl (.pair tI tV)) (.pair (.sl tIs) tI)) (.pair (.sl (.pair tI (.pair tI (.pair tI .bool)))) tI))))))),.val tI] ((q,(o,(v,(u,(r,((f,(g,m)),(d,t))))))),who,())) =
 Tree.cond (decide (who>=0)) (.leaf (.bool (decide (who<o)))) (.leaf (.bool false)):=by kernel_rfl
def c_rcrew:PC P:=PC.of (α:=(Int×(Int×(Int×(Int×(Int×((List (Int×V)×(List (List Int)×Int))×(List (Int×(Int×(Int×Bool)))×Int)))))))×Int×Unit) 62 [.agg (.pair tI (.pair tI (.pair tI (.pair tI (.pair tI (.pair (.pair (.sl (.pair tI tV)) (.pair (.sl tIs) tI)) (.pair (.sl (.pair tI (.pair tI (.pair tI .bool)))) tI))))))),.val tI] (fun x=>x) (fun x=>x) (fun _=>rfl)
 (fun _=>none)
 (fun x=>.bool (vB x.1.2.1 x.2.1)) (by kernel_rfl) (by
  rintro⟨⟨q,⟨o,⟨v,⟨u,⟨r,⟨⟨f,⟨g,m⟩⟩,⟨d,t⟩⟩⟩⟩⟩⟩⟩,who,⟨⟩⟩ hp
  refine yK hm (by kernel_rfl) (by kernel_rfl) (T_rcrew q o v u r f g m d t who) trivial ?_
  try dsimp only at hp
  try dsimp only
  refine⟨fun c1=>?_,fun c1=>?_⟩
  ·exact congrArg SV.bool (show _=vB o who by unfold vB;rw[c1,Bool.true_and])
  ·exact congrArg SV.bool (show _=vB o who by unfold vB;rw[c1,Bool.false_and]))
def L_rcrewX:Lay:={ slots:=[(0,.agg (.pair tI (.pair tI (.pair tI (.pair tI (.pair tI (.pair (.pair (.sl (.pair tI tV)) (.pair (.sl tIs) tI)) (.pair (.sl (.pair tI (.pair tI (.pair tI .bool)))) tI)))))))),(1,.val tI)] }
theorem T_rcrewX(q o v u r:Int)(f:List (Int×V))(g:List (List Int))(m:Int)(d:List (Int×(Int×(Int×Bool))))(t who:Int):jG (P:=P) [] (zH []) Tryz.f62 L_rcrewX true ((q,(o,(v,(u,(r,((f,(g,m)),(d,t))))))),who,()) =
 Tree.cond (decide (who>=0)) (.leaf { res:=.bool (decide (who<o)),boxes:=[] }) (.leaf { res:=.bool false,boxes:=[] }):=by kernel_rfl
def c_rcrewX:XC P:=XC.of (α:=(Int×(Int×(Int×(Int×(Int×((List (Int×V)×(List (List Int)×Int))×(List (Int×(Int×(Int×Bool)))×Int)))))))×Int×Unit) 62 L_rcrewX (fun x=>x) (fun x=>x) (fun _=>rfl)
 (fun _=>none)
 (fun x=>⟨.bool (vB x.1.2.1 x.2.1),[],[]⟩) (by kernel_rfl) (by kernel_rfl) (by
  rintro⟨⟨q,⟨o,⟨v,⟨u,⟨r,⟨⟨f,⟨g,m⟩⟩,⟨d,t⟩⟩⟩⟩⟩⟩⟩,who,⟨⟩⟩ hp
  refine yG hm (own:=true) (by kernel_rfl) (by kernel_rfl) (by kernel_rfl) (T_rcrewX q o v u r f g m d t who) trivial ?_
  try dsimp only at hp
  try dsimp only
  have fin:∀b:Bool,b=vB o who->(⟨.bool b,[],[]⟩:MOut)=⟨.bool (vB o who),[],[]⟩:=fun b h=>by rw[h]
  refine⟨fun c1=>fin _ ?_,fun c1=>fin _ ?_⟩
  ·unfold vB;rw[c1,Bool.true_and]
  ·unfold vB;rw[c1,Bool.false_and])
def L_rop0:Lay:={ slots:=[(1,.ptr 2017 0),(3,.val tI)],boxes:=[(2017,[.val tI,.val tI,.val tI,.val tI,.val tI,.val (.sl (.pair tI tV)),.val (.sl tIs),.val tI,.val (.sl (.pair tI (.pair tI (.pair tI .bool)))),.val tI])] }
def L_rop0_0:Lay:={ slots:=[(2,.val .bool)] }
def L_rop0_1:Lay:={ slots:=[] }
def X_rop0:Exit->St->Option Lay
 |.ret,_=>some L_rop0_0
 |.exit 0,_=>some L_rop0_1
 |_,_=>none
abbrev C_rop0:Code:=jH (zJ Tryz.f52) 0
abbrev AcA1:Type:=Unit×Int×Int×Int×Int×Int×Int×List (Int×V)×List (List Int)×Int×List (Int×(Int×(Int×Bool)))×Int×Unit
theorem B_rop0(i qI gH qH qG qF:Int)(qE:List (Int×V))(pM:List (List Int))(qD:Int)(a:List (Int×(Int×(Int×Bool))))(qC:Int):zF (P:=P) [] (zH []) [] 17 noU (jI C_rop0) L_rop0 X_rop0 (α:=AcA1) (fun x=>x) (fun x=>x) ((),i,qI,gH,qH,qG,qF,qE,pM,qD,a,qC,()) =
 Tree.cond (decide (i<(a.length:Int))) (.need (0<=i/\i<(a.length:Int)) (.cond (a.getD i.toNat (0,0,0,false)).2.2.2 (.leaf (Sum.inr (Exit.ret,Lay.st L_rop0_0 noU (true,())))) (.leaf (Sum.inl ((),IntKind.i64.wrap (i+1),qI,gH,qH,qG,qF,qE,pM,qD,a,qC,()))))) (.leaf (Sum.inr (Exit.exit 0,Lay.st L_rop0_1 noU ()))):=by kernel_rfl
def inv_rop0:AcA1->Prop:=fun(_,i,_,_,_,_,_,_,_,_,a,_)=>0<=i/\i<=a.length/\a.length<=1000
def O_rop0:AcA1->Tree (Exit×St):=fun(_,i,_,_,_,_,_,_,_,_,a,_)=>.cond ((a.drop i.toNat).any gG) (.leaf (.ret,L_rop0_0.st noU ((true),()))) (.leaf (.exit 0,L_rop0_1.st noU ()))
def R_rop0:jS:=j_ 17 L_rop0 (fun x=>x) inv_rop0 O_rop0
theorem K_rop0:zU P [] 17 none noU C_rop0 R_rop0:=by
 refine zT hm (cx:=[]) [] (xl:=X_rop0) (α:=AcA1) (fun x=>x) (fun(_,i,_,_,_,_,_,_,_,_,a,_)=>(a.length - i).toNat) (fun _=>rfl) (by kernel_rfl) (by kernel_rfl) ?_ (by kernel_rfl) trivial ?_
 ·intro e S L' h
  unfold X_rop0 at h
  split at h<;>cases h<;>kernel_rfl
 ·rintro⟨⟨⟩,i,qI,gH,qH,qG,qF,qE,pM,qD,a,qC,⟨⟩⟩ hinv Q hQ
  refine zD (B_rop0 i qI gH qH qG qF qE pM qD a qC) ?_
  obtain⟨h0,h1,h2⟩:=hinv
  unfold O_rop0 at hQ
  dsimp only at hQ
  rw[jZ (n:=i+1) (by omega) (by omega)]
  have hm:((a.length:Int) - (i+1)).toNat<((a.length:Int) - i).toNat\/¬ i<(a.length:Int):=by omega
  refine⟨fun c1=>?_,fun c1=>?_⟩
  ·have c1:=dcT c1
   have hm:=hm.resolve_right (fun k=>k c1)
   rw[jK (0,0,0,false) h0 c1,List.any_cons] at hQ
   refine⟨⟨h0,c1⟩,fun c2=>?_,fun c2=>?_⟩
   ·have c2:gG (a.getD i.toNat (0,0,0,false))=true:=c2
    rw[c2,Bool.true_or] at hQ
    exact hQ.1 rfl
   ·have c2:gG (a.getD i.toNat (0,0,0,false))=false:=c2
    rw[c2,Bool.false_or] at hQ
    exact⟨⟨⟨by omega,by omega,h2⟩,hm⟩,hQ⟩
  ·have c1:=dcF c1
   rw[jB c1] at hQ
   exact hQ.2 rfl
theorem T_ropen(q o v u r:Int)(f:List (Int×V))(g:List (List Int))(m:Int)(d:List (Int×(Int×(Int×Bool))))(t:Int):jD (P:=P) [] (zH [(0,R_rop0)]) Tryz.f52 (z_ 0 [.agg (.pair tI (.pair tI (.pair tI (.pair tI (.pair tI (.pair (.pair (.sl (.pair tI tV)) (.pair (.sl tIs) tI)) (.pair (.sl (.pair tI (.pair tI (.pair tI .bool)))) tI)))))))] ((q,(o,(v,(u,(r,((f,(g,m)),(d,t))))))),())) =
 Tree.need (inv_rop0 ((),0,q,o,v,u,r,f,g,m,d,t,())) (.cond (List.any (List.drop (Int.toNat 0) d) gG) (.leaf (.bool true)) (.leaf (.bool false))):=by kernel_rfl
def c_ropen:PC P:=PC.of (α:=(Int×(Int×(Int×(Int×(Int×((List (Int×V)×(List (List Int)×Int))×(List (Int×(Int×(Int×Bool)))×Int)))))))×Unit) 52 [.agg (.pair tI (.pair tI (.pair tI (.pair tI (.pair tI (.pair (.pair (.sl (.pair tI tV)) (.pair (.sl tIs) tI)) (.pair (.sl (.pair tI (.pair tI (.pair tI .bool)))) tI)))))))] (fun x=>x) (fun x=>x) (fun _=>rfl)
 (fun x=>some (x.1.2.2.2.2.2.2.1.length<=1000))
 (fun x=>.bool (wK x.1)) (by kernel_rfl) (by
  rintro⟨⟨q,⟨o,⟨v,⟨u,⟨r,⟨⟨f,⟨g,m⟩⟩,⟨d,t⟩⟩⟩⟩⟩⟩⟩,⟨⟩⟩ hp
  refine yK hm (by kernel_rfl) (by kernel_rfl) (T_ropen q o v u r f g m d t) ⟨K_rop0,trivial⟩ ?_
  try dsimp only at hp
  try dsimp only
  have hp' : d.length<=1000:=hp
  refine⟨⟨by omega,by omega,hp'⟩,fun c=>?_,fun c=>?_⟩
  ·exact congrArg SV.bool (show true=d.any gG from c.symm)
  ·exact congrArg SV.bool (show false=d.any gG from c.symm))
def L_ropenX:Lay:={ slots:=[(0,.agg (.pair tI (.pair tI (.pair tI (.pair tI (.pair tI (.pair (.pair (.sl (.pair tI tV)) (.pair (.sl tIs) tI)) (.pair (.sl (.pair tI (.pair tI (.pair tI .bool)))) tI))))))))] }
theorem T_ropenX(q o v u r:Int)(f:List (Int×V))(g:List (List Int))(m:Int)(d:List (Int×(Int×(Int×Bool))))(t:Int):jG (P:=P) [] (zH [(0,R_rop0)]) Tryz.f52 L_ropenX true ((q,(o,(v,(u,(r,((f,(g,m)),(d,t))))))),()) =
 Tree.need (inv_rop0 ((),0,q,o,v,u,r,f,g,m,d,t,())) (.cond (List.any (List.drop (Int.toNat 0) d) gG) (.leaf { res:=.bool true,boxes:=[] }) (.leaf { res:=.bool false,boxes:=[] })):=by kernel_rfl
def c_ropenX:XC P:=XC.of (α:=(Int×(Int×(Int×(Int×(Int×((List (Int×V)×(List (List Int)×Int))×(List (Int×(Int×(Int×Bool)))×Int)))))))×Unit) 52 L_ropenX (fun x=>x) (fun x=>x) (fun _=>rfl)
 (fun x=>some (x.1.2.2.2.2.2.2.1.length<=1000))
 (fun x=>⟨.bool (wK x.1),[],[]⟩) (by kernel_rfl) (by kernel_rfl) (by
  rintro⟨⟨q,⟨o,⟨v,⟨u,⟨r,⟨⟨f,⟨g,m⟩⟩,⟨d,t⟩⟩⟩⟩⟩⟩⟩,⟨⟩⟩ hp
  refine yG hm (own:=true) (by kernel_rfl) (by kernel_rfl) (by kernel_rfl) (T_ropenX q o v u r f g m d t) ⟨K_rop0,trivial⟩ ?_
  try dsimp only at hp
  try dsimp only
  have hp' : d.length<=1000:=hp
  have fin:∀b:Bool,b=wK (q,o,v,u,r,(f,g,m),d,t)->(⟨.bool b,[],[]⟩:MOut)=⟨.bool (wK (q,o,v,u,r,(f,g,m),d,t)),[],[]⟩:=fun b h=>by rw[h]
  refine⟨⟨by omega,by omega,hp'⟩,fun c=>fin _ ?_,fun c=>fin _ ?_⟩
  ·exact (show true=d.any gG from c.symm)
  ·exact (show false=d.any gG from c.symm))
def L_rfi0:Lay:={ slots:=[(1,.val tI),(2,.ptr 3022 0),(5,.val tI)],boxes:=[(3022,[.val tI,.val tI,.val tI,.val tI,.val tI,.val (.sl (.pair tI tV)),.val (.sl tIs),.val tI,.val (.sl (.pair tI (.pair tI (.pair tI .bool)))),.val tI])] }
def L_rfi0_0:Lay:={ slots:=[(4,.val tI)] }
def L_rfi0_1:Lay:={ slots:=[] }
def X_rfi0:Exit->St->Option Lay
 |.ret,_=>some L_rfi0_0
 |.exit 0,_=>some L_rfi0_1
 |_,_=>none
abbrev C_rfi0:Code:=jH (zJ Tryz.f144) 0
theorem B_rfi0(op i b2_0 b2_1 b2_2 b2_3 b2_4:Int)(b2_5:List (Int×V))(b2_6:List (List Int))(b2_7:Int)(a:List (Int×(Int×(Int×Bool))))(b2_9:Int):zF (P:=P) [] (zH []) [] 22 noU (jI C_rfi0) L_rfi0 X_rfi0 (α:=Int×AcA1) (fun x=>x) (fun x=>x) (op,(),i,b2_0,b2_1,b2_2,b2_3,b2_4,b2_5,b2_6,b2_7,a,b2_9,()) =
 Tree.cond (decide (i<(a.length:Int))) (.need (0<=i/\i<(a.length:Int)) (.cond ((a.getD i.toNat (0,0,0,false)).1==op) (.leaf (Sum.inr (Exit.ret,Lay.st L_rfi0_0 noU (i,())))) (.leaf (Sum.inl (op,(),IntKind.i64.wrap (i+1),b2_0,b2_1,b2_2,b2_3,b2_4,b2_5,b2_6,b2_7,a,b2_9,()))))) (.leaf (Sum.inr (Exit.exit 0,Lay.st L_rfi0_1 noU ()))):=by kernel_rfl
def inv_rfi0:Int×AcA1->Prop:=fun(_,_,i,_,_,_,_,_,_,_,_,a,_)=>0<=i/\i<=a.length/\(a.length:Int)<2 ^ 62
def O_rfi0:Int×AcA1->Tree (Exit×St):=fun(op,_,i,_,_,_,_,_,_,_,_,a,_)=>.cond ((a.drop i.toNat).any (opP op)) (.leaf (.ret,L_rfi0_0.st noU ((ixR (opP op) a i),()))) (.leaf (.exit 0,L_rfi0_1.st noU ()))
def R_rfi0:jS:=j_ 22 L_rfi0 (fun x=>x) inv_rfi0 O_rfi0
theorem K_rfi0:zU P [] 22 none noU C_rfi0 R_rfi0:=by
 refine zT hm (cx:=[]) [] (xl:=X_rfi0) (α:=Int×AcA1) (fun x=>x) (fun(_,_,i,_,_,_,_,_,_,_,_,a,_)=>(a.length - i).toNat) (fun _=>rfl) (by kernel_rfl) (by kernel_rfl) ?_ (by kernel_rfl) trivial ?_
 ·intro e S L' h
  unfold X_rfi0 at h
  split at h<;>cases h<;>kernel_rfl
 ·rintro⟨op,⟨⟩,i,b2_0,b2_1,b2_2,b2_3,b2_4,b2_5,b2_6,b2_7,a,b2_9,⟨⟩⟩ hinv Q hQ
  refine zD (B_rfi0 op i b2_0 b2_1 b2_2 b2_3 b2_4 b2_5 b2_6 b2_7 a b2_9) ?_
  obtain⟨h0,h1,h2⟩:=hinv
  unfold O_rfi0 at hQ
  dsimp only at hQ
  rw[jZ (n:=i+1) (by omega) (by omega)]
  have hm:((a.length:Int) - (i+1)).toNat<((a.length:Int) - i).toNat\/¬ i<(a.length:Int):=by omega
  refine⟨fun hi=>?_,fun hi=>?_⟩
  ·have hi:=dcT hi
   have hm:=hm.resolve_right (fun k=>k hi)
   obtain⟨e1,e2,e3⟩:=ix_step (p:=opP op) ((0,0,0,false):Pm) h0 hi
   rw[e1] at hQ
   refine⟨⟨h0,hi⟩,⟨fun hp=>?_,fun hp=>?_⟩⟩
   ·replace hp:opP op (a.getD i.toNat ((0,0,0,false):Pm))=true:=hp
    rw[hp,Bool.true_or,e2 hp] at hQ
    exact hQ.1 rfl
   ·replace hp:opP op (a.getD i.toNat ((0,0,0,false):Pm))=false:=hp
    rw[hp,Bool.false_or,e3 hp] at hQ
    exact⟨⟨⟨by omega,by omega,h2⟩,hm⟩,hQ⟩
  ·have hi:=dcF hi
   rw[jB hi] at hQ
   exact hQ.2 rfl
def L_rfindX:Lay:={ slots:=[(0,.agg (.pair tI (.pair tI (.pair tI (.pair tI (.pair tI (.pair (.pair (.sl (.pair tI tV)) (.pair (.sl tIs) tI)) (.pair (.sl (.pair tI (.pair tI (.pair tI .bool)))) tI)))))))),(1,.val tI)] }
theorem T_rfindX(q o v u r:Int)(f:List (Int×V))(g:List (List Int))(m:Int)(d:List (Int×(Int×(Int×Bool))))(t op:Int):jG (P:=P) [] (zH [(0,R_rfi0)]) Tryz.f144 L_rfindX true ((q,(o,(v,(u,(r,((f,(g,m)),(d,t))))))),op,()) =
 Tree.need (inv_rfi0 (op,(),0,q,o,v,u,r,f,g,m,d,t,())) (.cond (List.any (List.drop (Int.toNat 0) d) (opP op)) (.leaf { res:=.int .i64 (ixR (opP op) d 0),boxes:=[] }) (.leaf { res:=.int .i64 (-1:Int),boxes:=[] })):=by kernel_rfl
def c_rfindX:XC P:=XC.of (α:=(Int×(Int×(Int×(Int×(Int×((List (Int×V)×(List (List Int)×Int))×(List (Int×(Int×(Int×Bool)))×Int)))))))×Int×Unit) 144 L_rfindX (fun x=>x) (fun x=>x) (fun _=>rfl)
 (fun x=>some ((x.1.2.2.2.2.2.2.1.length:Int)<2 ^ 62))
 (fun x=>⟨.int .i64 (pIx x.1.2.2.2.2.2.2.1 x.2.1),[],[]⟩) (by kernel_rfl) (by kernel_rfl) (by
  rintro⟨⟨q,⟨o,⟨v,⟨u,⟨r,⟨⟨f,⟨g,m⟩⟩,⟨d,t⟩⟩⟩⟩⟩⟩⟩,op,⟨⟩⟩ hp
  refine yG hm (own:=true) (by kernel_rfl) (by kernel_rfl) (by kernel_rfl) (T_rfindX q o v u r f g m d t op) ⟨K_rfi0,trivial⟩ ?_
  try dsimp only at hp
  try dsimp only
  have hp' : (d.length:Int)<2 ^ 62:=hp
  have fin:∀b:Int,b=pIx d op->(⟨.int .i64 b,[],[]⟩:MOut)=⟨.int .i64 (pIx d op),[],[]⟩:=fun b h=>by rw[h]
  refine⟨⟨by omega,by omega,hp'⟩,fun h=>fin _ ?_,fun h=>fin _ ?_⟩
  ·simp only[Int.toNat_zero,List.drop_zero] at h
   unfold pIx ixS ixR
   rw[if_pos h]
   simp only[Int.toNat_zero,List.drop_zero,Int.zero_add]
  ·simp only[Int.toNat_zero,List.drop_zero] at h
   unfold pIx ixS
   rw[if_neg (by simp only[h];decide)])
def L_rHoldsX:Lay:={ slots:=[(0,.agg (.pair (.sl (.pair tI tV)) (.pair (.sl tIs) tI))),(1,.val tI),(2,.val tI)] }
theorem T_rHoldsX(h_0:List (Int×V))(h_1:List (List Int))(h_2 tick press:Int):jG (P:=P) [c_sound.gc,c_rholds.gc] (zH []) Tryz.f49 L_rHoldsX true ((h_0,(h_1,h_2)),tick,press,()) =
 Tree.need (h_0.length<=1000) (.need (zB (h_0,h_1,h_2)=0/\flOk (xO (h_0,h_1,h_2) tick press) h_1) (.leaf { res:=.bool (Option.isSome (proofF (h_0,h_1,h_2) (xO (h_0,h_1,h_2) tick press))),boxes:=[] })):=by kernel_rfl
def c_rHoldsX:XC P:=XC.of (α:=(List (Int×V)×(List (List Int)×Int))×Int×Int×Unit) 49 L_rHoldsX (fun x=>x) (fun x=>x) (fun _=>rfl)
 (fun x=>some (zB x.1=0))
 (fun x=>⟨.bool (zQ x.1 x.2.1 x.2.2.1),[],[]⟩) (by kernel_rfl) (by kernel_rfl) (by
  rintro⟨⟨h_0,⟨h_1,h_2⟩⟩,tick,press,⟨⟩⟩ hp
  refine yG hm (own:=true) (by kernel_rfl) (by kernel_rfl) (by kernel_rfl) (T_rHoldsX h_0 h_1 h_2 tick press) trivial ?_
  try dsimp only at hp
  try dsimp only
  have hp' : zB (h_0,(h_1,h_2))=0:=hp
  have k:=yD hp'
  have:=k.e10
  dsimp only at this
  exact⟨by omega,⟨hp',k.flags tick press⟩,rfl⟩)
def L_rck0:Lay:={ slots:=[(1,.ptr 2162 0),(4,.val tI)],boxes:=[(2162,[.val tI,.val tI,.val tI,.val tI,.val tI,.val (.sl (.pair tI tV)),.val (.sl tIs),.val tI,.val (.sl (.pair tI (.pair tI (.pair tI .bool)))),.val tI])] }
def L_rck0_0:Lay:={ slots:=[(2,.val tI)] }
def L_rck0_1:Lay:={ slots:=[(1,.ptr 2162 0)],boxes:=[(2162,[.val tI,.val tI,.val tI,.val tI,.val tI,.val (.sl (.pair tI tV)),.val (.sl tIs),.val tI,.val (.sl (.pair tI (.pair tI (.pair tI .bool)))),.val tI])] }
def X_rck0:Exit->St->Option Lay
 |.ret,_=>some L_rck0_0
 |.exit 0,_=>some L_rck0_1
 |_,_=>none
abbrev C_rck0:Code:=jH (zJ Tryz.f19) 0
theorem B_rck0(i qI w qH qG qF:Int)(qE:List (Int×V))(pM:List (List Int))(qD:Int)(a:List (Int×(Int×(Int×Bool))))(qC:Int):zF (P:=P) [] (zH []) [] 162 noU (jI C_rck0) L_rck0 X_rck0 (α:=AcA1) (fun x=>x) (fun x=>x) ((),i,qI,w,qH,qG,qF,qE,pM,qD,a,qC,()) =
 Tree.cond (decide (i<(a.length:Int))) (.need (0<=i/\i<(a.length:Int)) (.cond (decide ((a.getD i.toNat (0,0,0,false)).1<0)) (.leaf (Sum.inr (Exit.ret,Lay.st L_rck0_0 noU ((11:Int),())))) (.need (0<=i/\i<(a.length:Int)) (.cond (decide ((a.getD i.toNat (0,0,0,false)).1>=16)) (.leaf (Sum.inr (Exit.ret,Lay.st L_rck0_0 noU ((11:Int),())))) (.cond (decide (i>0)) (.need (0<=i/\i<(a.length:Int)) (.need (0<=IntKind.i64.wrap (i - 1)/\IntKind.i64.wrap (i - 1)<(a.length:Int)) (.cond (decide ((a.getD i.toNat (0,0,0,false)).1<=(List.getD a (Int.toNat (IntKind.i64.wrap (i - 1))) ((0:Int),(0:Int),(0:Int),false)).1)) (.leaf (Sum.inr (Exit.ret,Lay.st L_rck0_0 noU ((11:Int),())))) (.leaf (Sum.inl ((),IntKind.i64.wrap (i+1),qI,w,qH,qG,qF,qE,pM,qD,a,qC,())))))) (.leaf (Sum.inl ((),IntKind.i64.wrap (i+1),qI,w,qH,qG,qF,qE,pM,qD,a,qC,())))))))) (.leaf (Sum.inr (Exit.exit 0,Lay.st L_rck0_1 noU ((),qI,w,qH,qG,qF,qE,pM,qD,a,qC,())))):=by kernel_rfl
def inv_rck0:AcA1->Prop:=fun(_,i,_,_,_,_,_,_,_,_,a,_)=>0<=i/\i<=a.length/\a.length<=1000/\-1<=pX a i
def O_rck0:AcA1->Tree (Exit×St):=fun(_,i,qI,w,qH,qG,qF,qE,pM,qD,a,qC,_)=>.cond (qW (pX a i) (a.drop i.toNat)) (.leaf (.ret,L_rck0_0.st noU (((11:Int)),()))) (.leaf (.exit 0,L_rck0_1.st noU ((),qI,w,qH,qG,qF,qE,pM,qD,a,qC,())))
def R_rck0:jS:=j_ 162 L_rck0 (fun x=>x) inv_rck0 O_rck0
theorem K_rck0:zU P [] 162 none noU C_rck0 R_rck0:=by
 refine zT hm (cx:=[]) [] (xl:=X_rck0) (α:=AcA1) (fun x=>x) (fun(_,i,_,_,_,_,_,_,_,_,a,_)=>(a.length - i).toNat) (fun _=>rfl) (by kernel_rfl) (by kernel_rfl) ?_ (by kernel_rfl) trivial ?_
 ·intro e S L' h
  unfold X_rck0 at h
  split at h<;>cases h<;>kernel_rfl
 ·rintro⟨⟨⟩,i,qI,w,qH,qG,qF,qE,pM,qD,a,qC,⟨⟩⟩ hinv Q hQ
  refine zD (B_rck0 i qI w qH qG qF qE pM qD a qC) ?_
  obtain⟨h0,h1,h2,h3⟩:=hinv
  unfold O_rck0 at hQ
  dsimp only at hQ
  rw[jZ (n:=i+1) (by omega) (by omega),jZ (n:=i - 1) (by omega) (by omega)]
  have hm:((a.length:Int) - (i+1)).toNat<((a.length:Int) - i).toNat\/¬ i<(a.length:Int):=by omega
  refine⟨fun c1=>?_,fun c1=>?_⟩
  ·have c1:=dcT c1
   have hm:=hm.resolve_right (fun k=>k c1)
   have hr:0<=i/\i<(a.length:Int):=⟨h0,c1⟩
   rw[jK (0,0,0,false) h0 c1,qW] at hQ
   have hl:pX a (i+1)=(a.getD i.toNat (0,0,0,false)).1:=by
    unfold pX
    rw[if_pos (by omega),Int.add_sub_cancel]
   have go:(a.getD i.toNat (0,0,0,false)).1>pX a i->¬ (a.getD i.toNat (0,0,0,false)).1>=16->Tree.holds Q (O_rck0 ((),i+1,qI,w,qH,qG,qF,qE,pM,qD,a,qC,()))/\-1<=pX a (i+1):=fun k1 k2=>by
    rw[decide_eq_false (show ¬ (a.getD i.toNat (0,0,0,false)).1<=pX a i by omega),decide_eq_false k2,Bool.false_or,Bool.false_or,<- hl] at hQ
    exact⟨hQ,by rw[hl];omega⟩
   have stop:(a.getD i.toNat (0,0,0,false)).1<=pX a i\/(a.getD i.toNat (0,0,0,false)).1>=16->Q (Exit.ret,L_rck0_0.st noU ((11:Int),())):=fun k=>by
    refine hQ.1 ?_
    rcases k with k |k
    ·rw[decide_eq_true k,Bool.true_or]
    ·rw[decide_eq_true k,Bool.true_or,Bool.or_true]
   refine⟨hr,fun c2=>stop (.inl ?_),fun c2=>⟨hr,fun c3=>stop (.inr (dcT c3)),fun c3=>⟨fun c4=>?_,fun c4=>?_⟩⟩⟩
   ·have:=dcT c2
    omega
   all_goals have c2:=dcF c2
   all_goals have c3:=dcF c3
   ·have c4:=dcT c4
    have hl2:pX a i=(a.getD (i - 1).toNat (0,0,0,false)).1:=by
     unfold pX
     rw[if_pos c4]
    refine⟨hr,⟨by omega,by omega⟩,fun c5=>stop (.inl ?_),fun c5=>?_⟩
    ·rw[hl2];exact dcT c5
    ·have c5:=dcF c5
     obtain⟨g1,g2⟩:=go (by rw[hl2];omega) c3
     exact⟨⟨⟨by omega,by omega,h2,g2⟩,hm⟩,g1⟩
   ·have c4:=dcF c4
    have hl2:pX a i = -1:=by
     unfold pX
     rw[if_neg c4]
    obtain⟨g1,g2⟩:=go (by rw[hl2];omega) c3
    exact⟨⟨⟨by omega,by omega,h2,g2⟩,hm⟩,g1⟩
  ·have c1:=dcF c1
   rw[jB c1,qW] at hQ
   exact hQ.2 rfl
def L_rck2:Lay:={ slots:=[(1,.ptr 2162 0),(5,.val tI)],boxes:=[(2162,[.val tI,.val tI,.val tI,.val tI,.val tI,.val (.sl (.pair tI tV)),.val (.sl tIs),.val tI,.val (.sl (.pair tI (.pair tI (.pair tI .bool)))),.val tI])] }
def L_rck2_0:Lay:={ slots:=[(2,.val tI)] }
def L_rck2_1:Lay:={ slots:=[(1,.ptr 2162 0)],boxes:=[(2162,[.val tI,.val tI,.val tI,.val tI,.val tI,.val (.sl (.pair tI tV)),.val (.sl tIs),.val tI,.val (.sl (.pair tI (.pair tI (.pair tI .bool)))),.val tI])] }
def X_rck2:Exit->St->Option Lay
 |.ret,_=>some L_rck2_0
 |.exit 2,_=>some L_rck2_1
 |_,_=>none
abbrev C_rck2:Code:=jH (zJ Tryz.f19) 2
theorem B_rck2(j qI w qH qG qF:Int)(qE:List (Int×V))(pM:List (List Int))(qD:Int)(a:List (Int×(Int×(Int×Bool))))(qC:Int):zF (P:=P) [c_rcrew.gc,wV.gc] (zH []) [] 162 noU (jI C_rck2) L_rck2 X_rck2 (α:=AcA1) (fun x=>x) (fun x=>x) ((),j,qI,w,qH,qG,qF,qE,pM,qD,a,qC,()) =
 Tree.cond (decide (j<(a.length:Int))) (.need (0<=j/\j<(a.length:Int)) (.cond (!vB w (a.getD j.toNat (0,0,0,false)).2.1) (.leaf (Sum.inr (Exit.ret,Lay.st L_rck2_0 noU ((2:Int),())))) (.need (0<=j/\j<(a.length:Int)) (.cond (!wi (a.getD j.toNat (0,0,0,false)).2.2.1 0 2199023255552) (.leaf (Sum.inr (Exit.ret,Lay.st L_rck2_0 noU ((2:Int),())))) (.leaf (Sum.inl ((),IntKind.i64.wrap (j+1),qI,w,qH,qG,qF,qE,pM,qD,a,qC,()))))))) (.leaf (Sum.inr (Exit.exit 2,Lay.st L_rck2_1 noU ((),qI,w,qH,qG,qF,qE,pM,qD,a,qC,())))):=by kernel_rfl
def inv_rck2:AcA1->Prop:=fun(_,j,_,_,_,_,_,_,_,_,a,_)=>0<=j/\j<=a.length/\a.length<=1000
def O_rck2:AcA1->Tree (Exit×St):=fun(_,j,qI,w,qH,qG,qF,qE,pM,qD,a,qC,_)=>.cond ((a.drop j.toNat).any (qQ w)) (.leaf (.ret,L_rck2_0.st noU (((2:Int)),()))) (.leaf (.exit 2,L_rck2_1.st noU ((),qI,w,qH,qG,qF,qE,pM,qD,a,qC,())))
def R_rck2:jS:=j_ 162 L_rck2 (fun x=>x) inv_rck2 O_rck2
theorem K_rck2:zU P [] 162 none noU C_rck2 R_rck2:=by
 refine zT hm (cx:=[c_rcrew.gc,wV.gc]) [] (xl:=X_rck2) (α:=AcA1) (fun x=>x) (fun(_,j,_,_,_,_,_,_,_,_,a,_)=>(a.length - j).toNat) (fun _=>rfl) (by kernel_rfl) (by kernel_rfl) ?_ (by kernel_rfl) trivial ?_
 ·intro e S L' h
  unfold X_rck2 at h
  split at h<;>cases h<;>kernel_rfl
 ·rintro⟨⟨⟩,j,qI,w,qH,qG,qF,qE,pM,qD,a,qC,⟨⟩⟩ hinv Q hQ
  refine zD (B_rck2 j qI w qH qG qF qE pM qD a qC) ?_
  obtain⟨h0,h1,h2⟩:=hinv
  unfold O_rck2 at hQ
  dsimp only at hQ
  rw[jZ (n:=j+1) (by omega) (by omega)]
  have hm:((a.length:Int) - (j+1)).toNat<((a.length:Int) - j).toNat\/¬ j<(a.length:Int):=by omega
  refine⟨fun c1=>?_,fun c1=>?_⟩
  ·have c1:=dcT c1
   have hm:=hm.resolve_right (fun k=>k c1)
   have hr:0<=j/\j<(a.length:Int):=⟨h0,c1⟩
   rw[jK (0,0,0,false) h0 c1,List.any_cons] at hQ
   have hu:qQ w (a.getD j.toNat (0,0,0,false))=(!vB w (a.getD j.toNat (0,0,0,false)).2.1 || !wi (a.getD j.toNat (0,0,0,false)).2.2.1 0 2199023255552):=rfl
   rw[hu] at hQ
   refine⟨hr,fun c2=>?_,fun c2=>⟨hr,fun c3=>?_,fun c3=>?_⟩⟩
   ·rw[c2,Bool.true_or,Bool.true_or] at hQ
    exact hQ.1 rfl
   ·rw[c3,Bool.or_true,Bool.true_or] at hQ
    exact hQ.1 rfl
   ·rw[c2,c3,Bool.or_false,Bool.false_or] at hQ
    exact⟨⟨⟨by omega,by omega,h2⟩,hm⟩,hQ⟩
  ·have c1:=dcF c1
   rw[jB c1] at hQ
   exact hQ.2 rfl
def intT(n:Int):Tree SV:=.leaf (.int .i64 n)
def ckT(s:zE)(N0 N2:Prop):Tree SV :=
 .need (hOk s.2.2.2.2.2.1) (.cond (zB s.2.2.2.2.2.1 != 0) (intT (zB s.2.2.2.2.2.1)) (.cond (decide ((s.2.2.2.2.2.2.1.length:Int)>16)) (intT 8) (.need N0 (.cond (qW (pX s.2.2.2.2.2.2.1 0) (s.2.2.2.2.2.2.1.drop (Int.toNat 0))) (intT 11) (.need N2 (.cond ((s.2.2.2.2.2.2.1.drop (Int.toNat 0)).any (qQ s.2.1)) (intT 2) (.need (s.2.2.2.2.2.2.1.length<=1000) (.cond (!wK s) (.cond (s.2.2.2.2.2.2.2 != -1) (intT 10) (intT 0))
  (.need (zB s.2.2.2.2.2.1=0) (.cond (zQ s.2.2.2.2.2.1 s.1 s.2.2.2.2.1) (.cond (s.2.2.2.2.2.2.2 != -1) (intT 10) (.cond (!zQ s.2.2.2.2.2.1 s.1 s.2.2.2.2.1) (.cond (!wi s.2.2.2.2.2.2.2 0 s.1) (intT 10) (intT 0)) (intT 0))) (.cond (!zQ s.2.2.2.2.2.1 s.1 s.2.2.2.2.1) (.cond (!wi s.2.2.2.2.2.2.2 0 s.1) (intT 10) (intT 0)) (intT 0))))))))))))
theorem ckT_ok{s:zE}{N0 N2:Prop}(hh:hOk s.2.2.2.2.2.1) (hl:s.2.2.2.2.2.2.1.length<=1000) (n0:N0) (n2:N2) (hb:xW s=false):(ckT s N0 N2).holds (fun x=>x=SV.int .i64 (vY s)):=by
 have e:vY s=if zB s.2.2.2.2.2.1≠0 then zB s.2.2.2.2.2.1 else if s.2.2.2.2.2.2.1.length>16 then 8 else if qW (-1) s.2.2.2.2.2.2.1=true then 11 else if s.2.2.2.2.2.2.1.any (qQ s.2.1)=true then 2
   else if jM s s.1=true then (if s.2.2.2.2.2.2.2 ≠ -1 then 10 else 0) else if wi s.2.2.2.2.2.2.2 0 s.1=false then 10 else 0:=by
  unfold vY
  rw[if_neg (by rw[hb];decide)]
 have fin:∀n:Int,vY s=n->SV.int .i64 n=SV.int .i64 (vY s):=fun n h=>by rw[h]
 have l0:pX s.2.2.2.2.2.2.1 0 = -1:=by unfold pX;rw[if_neg (by decide)]
 unfold jM at e
 refine⟨hh,fun c1=>fin _ ?_,fun c1=>⟨fun c2=>fin _ ?_,fun c2=>⟨n0,fun c3=>fin _ ?_,fun c3=>⟨n2,fun c4=>fin _ ?_,fun c4=>⟨hl,fun c5=>⟨fun c6=>fin _ ?_,fun c6=>fin _ ?_⟩,fun c5=>⟨wF c1,fun c6=>⟨fun c7=>fin _ ?_,fun c7=>⟨fun c8=>?_,fun c8=>fin _ ?_⟩⟩,fun c6=>⟨fun c7=>⟨fun c8=>fin _ ?_,fun c8=>fin _ ?_⟩,fun c7=>?_⟩⟩⟩⟩⟩⟩⟩
 ·rw[e,if_pos (zAi c1)]
 all_goals rw[if_neg (fun k=>k (wF c1))] at e
 ·have c2:=dcT c2
  rw[e,if_pos (by omega)]
 all_goals have c2:=dcF c2
 all_goals rw[if_neg (by omega)] at e
 ·rw[l0] at c3
  rw[e,if_pos (show qW (-1) s.2.2.2.2.2.2.1=true from c3)]
 all_goals rw[l0] at c3
 all_goals rw[if_neg (by rw[show qW (-1) s.2.2.2.2.2.2.1=false from c3];decide)] at e
 ·rw[e,if_pos (show s.2.2.2.2.2.2.1.any (qQ s.2.1)=true from c4)]
 all_goals rw[if_neg (by rw[show s.2.2.2.2.2.2.1.any (qQ s.2.1)=false from c4];decide),c5] at e
 ·rw[e,if_pos (Bool.true_or _),if_pos (zAi c6)]
 ·rw[e,if_pos (Bool.true_or _),if_neg (fun k=>k (wF c6))]
 ·rw[e,c6,Bool.or_true,if_pos rfl,if_pos (zAi c7)]
 ·rw[c6] at c8;cases c8
 ·rw[e,c6,Bool.or_true,if_pos rfl,if_neg (fun k=>k (wF c7))]
 ·rw[e,c6,Bool.or_false,if_neg (by decide),if_pos (xP c8)]
 ·rw[e,c6,Bool.or_false,if_neg (by decide),if_neg (by rw[qR c8];decide)]
 ·rw[c6] at c7;cases c7
theorem T_rCheck(q o v u r:Int)(f:List (Int×V))(g:List (List Int))(m:Int)(d:List (Int×(Int×(Int×Bool))))(t:Int):jD (P:=P) [wV.gc,c_rcrew.gc,c_rHouse.gc,c_ropen.gc,c_rHolds.gc] (zH [(0,R_rck0),(2,R_rck2)]) Tryz.f19 (z_ 0 [.agg (.pair tI (.pair tI (.pair tI (.pair tI (.pair tI (.pair (.pair (.sl (.pair tI tV)) (.pair (.sl tIs) tI)) (.pair (.sl (.pair tI (.pair tI (.pair tI .bool)))) tI)))))))] ((q,(o,(v,(u,(r,((f,(g,m)),(d,t))))))),())) =
 Tree.cond (!wi q 0 1099511627776) (.leaf (.int .i64 2)) (.cond (decide (o<1)) (.leaf (.int .i64 2)) (.cond (decide (o>20)) (.leaf (.int .i64 2)) (.cond (!vB o v) (.leaf (.int .i64 2)) (.cond (u != (-1:Int)) (.cond (!vB o u) (.leaf (.int .i64 2)) (.cond (u==v) (.leaf (.int .i64 2)) (.cond (!wi r 0 68719476736) (.leaf (.int .i64 2)) (.need (hOk (f,g,m)) (.cond (zB (f,g,m) != 0) (.leaf (.int .i64 (zB (f,g,m)))) (.cond (decide ((d.length:Int)>16)) (.leaf (.int .i64 8)) (.need (inv_rck0 ((),0,q,o,v,u,r,f,g,m,d,t,())) (.cond (qW (pX d 0) (List.drop (Int.toNat 0) d)) (.leaf (.int .i64 11)) (.need (inv_rck2 ((),0,q,o,v,u,r,f,g,m,d,t,())) (.cond (List.any (List.drop (Int.toNat 0) d) (qQ o)) (.leaf (.int .i64 2)) (.need (d.length<=1000) (.cond (!wK (q,o,v,u,r,(f,g,m),d,t)) (.cond (t != (-1:Int)) (.leaf (.int .i64 10)) (.leaf (.int .i64 0))) (.need (zB (f,g,m)=0) (.cond (zQ (f,g,m) q r) (.cond (t != (-1:Int)) (.leaf (.int .i64 10)) (.cond (!zQ (f,g,m) q r) (.cond (!wi t 0 q) (.leaf (.int .i64 10)) (.leaf (.int .i64 0))) (.leaf (.int .i64 0)))) (.cond (!zQ (f,g,m) q r) (.cond (!wi t 0 q) (.leaf (.int .i64 10)) (.leaf (.int .i64 0))) (.leaf (.int .i64 0))))))))))))))))) (.cond (u==v) (.leaf (.int .i64 2)) (.cond (!wi r 0 68719476736) (.leaf (.int .i64 2)) (.need (hOk (f,g,m)) (.cond (zB (f,g,m) != 0) (.leaf (.int .i64 (zB (f,g,m)))) (.cond (decide ((d.length:Int)>16)) (.leaf (.int .i64 8)) (.need (inv_rck0 ((),0,q,o,v,u,r,f,g,m,d,t,())) (.cond (qW (pX d 0) (List.drop (Int.toNat 0) d)) (.leaf (.int .i64 11)) (.need (inv_rck2 ((),0,q,o,v,u,r,f,g,m,d,t,())) (.cond (List.any (List.drop (Int.toNat 0) d) (qQ o)) (.leaf (.int .i64 2)) (.need (d.length<=1000) (.cond (!wK (q,o,v,u,r,(f,g,m),d,t)) (.cond (t != (-1:Int)) (.leaf (.int .i64 10)) (.leaf (.int .i64 0))) (.need (zB (f,g,m)=0) (.cond (zQ (f,g,m) q r) (.cond (t != (-1:Int)) (.leaf (.int .i64 10)) (.cond (!zQ (f,g,m) q r) (.cond (!wi t 0 q) (.leaf (.int .i64 10)) (.leaf (.int .i64 0))) (.leaf (.int .i64 0)))) (.cond (!zQ (f,g,m) q r) (.cond (!wi t 0 q) (.leaf (.int .i64 10)) (.leaf (.int .i64 0))) (.leaf (.int .i64 0)))))))))))))))))))):=by kernel_rfl
def c_rCheck:PC P:=PC.of (α:=(Int×(Int×(Int×(Int×(Int×((List (Int×V)×(List (List Int)×Int))×(List (Int×(Int×(Int×Bool)))×Int)))))))×Unit) 19 [.agg (.pair tI (.pair tI (.pair tI (.pair tI (.pair tI (.pair (.pair (.sl (.pair tI tV)) (.pair (.sl tIs) tI)) (.pair (.sl (.pair tI (.pair tI (.pair tI .bool)))) tI)))))))] (fun x=>x) (fun x=>x) (fun _=>rfl)
 (fun x=>some (sOk x.1))
 (fun x=>.int .i64 (vY x.1)) (by kernel_rfl) (by
  rintro⟨⟨q,⟨o,⟨v,⟨u,⟨r,⟨⟨f,⟨g,m⟩⟩,⟨d,t⟩⟩⟩⟩⟩⟩⟩,⟨⟩⟩ hp
  refine yK hm (by kernel_rfl) (by kernel_rfl) (T_rCheck q o v u r f g m d t) ⟨K_rck0,K_rck2,trivial⟩ ?_
  try dsimp only at hp
  try dsimp only
  obtain⟨hh,hl⟩:sOk (q,o,v,u,r,(f,g,m),d,t):=hp
  dsimp only at hh hl
  have fin:∀n:Int,vY (q,o,v,u,r,(f,g,m),d,t)=n->SV.int .i64 n=SV.int .i64 (vY (q,o,v,u,r,(f,g,m),d,t)):=fun n h=>by rw[h]
  have bad:xW (q,o,v,u,r,(f,g,m),d,t)=true->vY (q,o,v,u,r,(f,g,m),d,t)=2:=fun h=>by unfold vY;rw[if_pos h]
  have l0 : -1<=pX d 0:=by unfold pX;rw[if_neg (by decide)];decide
  have good:xW (q,o,v,u,r,(f,g,m),d,t)=false->_:=ckT_ok (s:=(q,o,v,u,r,(f,g,m),d,t)) (N0:=inv_rck0 ((),0,q,o,v,u,r,f,g,m,d,t,())) (N2:=inv_rck2 ((),0,q,o,v,u,r,f,g,m,d,t,())) hh hl ⟨by omega,by omega,hl,l0⟩ ⟨by omega,by omega,hl⟩
  refine⟨fun c1=>fin _ (bad ?_),fun c1=>⟨fun c2=>fin _ (bad ?_),fun c2=>⟨fun c3=>fin _ (bad ?_),fun c3=>⟨fun c4=>fin _ (bad ?_),fun c4=>⟨fun c5=>⟨fun c6=>fin _ (bad ?_),fun c6=>⟨fun c7=>fin _ (bad ?_),fun c7=>⟨fun c8=>fin _ (bad ?_),fun c8=>good ?_⟩⟩⟩,fun c5=>⟨fun c7=>fin _ (bad ?_),fun c7=>⟨fun c8=>fin _ (bad ?_),fun c8=>good ?_⟩⟩⟩⟩⟩⟩⟩
  ·unfold xW;dsimp only;simp only[c1,Bool.true_or,Bool.or_true,Bool.false_or,Bool.or_false,Bool.true_and,Bool.false_and,Bool.and_true,Bool.and_false]
  ·unfold xW;dsimp only;simp only[c1,c2,Bool.true_or,Bool.or_true,Bool.false_or,Bool.or_false,Bool.true_and,Bool.false_and,Bool.and_true,Bool.and_false]
  ·unfold xW;dsimp only;simp only[c1,c2,c3,Bool.true_or,Bool.or_true,Bool.false_or,Bool.or_false,Bool.true_and,Bool.false_and,Bool.and_true,Bool.and_false]
  ·unfold xW;dsimp only;simp only[c1,c2,c3,c4,Bool.true_or,Bool.or_true,Bool.false_or,Bool.or_false,Bool.true_and,Bool.false_and,Bool.and_true,Bool.and_false]
  ·unfold xW;dsimp only;simp only[c1,c2,c3,c4,c5,c6,Bool.true_or,Bool.or_true,Bool.false_or,Bool.or_false,Bool.true_and,Bool.false_and,Bool.and_true,Bool.and_false]
  ·unfold xW;dsimp only;simp only[c1,c2,c3,c4,c5,c6,c7,Bool.true_or,Bool.or_true,Bool.false_or,Bool.or_false,Bool.true_and,Bool.false_and,Bool.and_true,Bool.and_false]
  ·unfold xW;dsimp only;simp only[c1,c2,c3,c4,c5,c6,c7,c8,Bool.true_or,Bool.or_true,Bool.false_or,Bool.or_false,Bool.true_and,Bool.false_and,Bool.and_true,Bool.and_false]
  ·unfold xW;dsimp only;simp only[c1,c2,c3,c4,c5,c6,c7,c8,Bool.true_or,Bool.or_true,Bool.false_or,Bool.or_false,Bool.true_and,Bool.false_and,Bool.and_true,Bool.and_false]
  ·unfold xW;dsimp only;simp only[c1,c2,c3,c4,c5,c7,Bool.true_or,Bool.or_true,Bool.false_or,Bool.or_false,Bool.true_and,Bool.false_and,Bool.and_true,Bool.and_false]
  ·unfold xW;dsimp only;simp only[c1,c2,c3,c4,c5,c7,c8,Bool.true_or,Bool.or_true,Bool.false_or,Bool.or_false,Bool.true_and,Bool.false_and,Bool.and_true,Bool.and_false]
  ·unfold xW;dsimp only;simp only[c1,c2,c3,c4,c5,c7,c8,Bool.true_or,Bool.or_true,Bool.false_or,Bool.or_false,Bool.true_and,Bool.false_and,Bool.and_true,Bool.and_false])
end
end Go.MB
