/- Sites: which are valid. -/
import Derived.Test.YtfhomgggbhjglaaGreatMuF
namespace Go.MB
open Go Go.Sx Go.Proofs
set_option linter.unusedVariables false
set_option linter.unusedSimpArgs false
noncomputable section
def vB(crew who:Int):Bool:=decide (who>=0)&&decide (who<crew)
def xW(s:zE):Bool:=!wi s.1 0 1099511627776||(decide (s.2.1<1)||(decide (s.2.1>20)||(!vB s.2.1 s.2.2.1||(((s.2.2.2.1 != -1) && !vB s.2.1 s.2.2.2.1)||((s.2.2.2.1==s.2.2.1) || !wi s.2.2.2.2.1 0 68719476736)))))
def qW:Int->List Pm->Bool
 |_,[]=>false
 |last,p::r=>decide (p.1<=last)||(decide (p.1>=16)||qW p.1 r)
def qQ(crew:Int)(p:Pm):Bool:=!vB crew p.2.1 || !wi p.2.2.1 0 2199023255552
def gG(p:Pm):Bool:=p.2.2.2
def wK(s:zE):Bool:=s.2.2.2.2.2.2.1.any gG
def jM(s:zE)(tick:Int):Bool:=!wK s||zQ s.2.2.2.2.2.1 tick s.2.2.2.2.1
def vY(s:zE):Int :=
 if xW s=true then 2 else if zB s.2.2.2.2.2.1≠0 then zB s.2.2.2.2.2.1 else if s.2.2.2.2.2.2.1.length>16 then 8 else if qW (-1) s.2.2.2.2.2.2.1=true then 11 else if s.2.2.2.2.2.2.1.any (qQ s.2.1)=true then 2
 else if jM s s.1=true then (if s.2.2.2.2.2.2.2 ≠ -1 then 10 else 0) else if wi s.2.2.2.2.2.2.2 0 s.1=false then 10 else 0
theorem ordB_step{last:Int}{l:List Pm}{i:Int}(h0:0<=i) (h:i<l.length):qW last (l.drop i.toNat)=(decide ((l.getD i.toNat (0,0,0,false)).1<=last)||(decide ((l.getD i.toNat (0,0,0,false)).1>=16)||qW (l.getD i.toNat (0,0,0,false)).1 (l.drop (i+1).toNat))):=by
 rw[jK (0,0,0,false) h0 h];rfl
theorem T_member(A y D C B:Int)(u:List (Int×V))(v:List (List Int))(w:Int)(b:List (Int×(Int×(Int×Bool))))(z who:Int):jD (P:=P) [] (zH []) Tryz.f55 (z_ 0 [.agg (.pair tI (.pair tI (.pair tI (.pair tI (.pair tI (.pair (.pair (.sl (.pair tI tV)) (.pair (.sl tIs) tI)) (.pair (.sl (.pair tI (.pair tI (.pair tI .bool)))) tI))))))),.val tI] ((A,(y,(D,(C,(B,((u,(v,w)),(b,z))))))),who,())) =
 Tree.cond (decide (who>=0)) (.leaf (.bool (decide (who<y)))) (.leaf (.bool false)):=by kernel_rfl
def kY:PC P:=PC.of (α:=(Int×(Int×(Int×(Int×(Int×((List (Int×V)×(List (List Int)×Int))×(List (Int×(Int×(Int×Bool)))×Int)))))))×Int×Unit) 55 [.agg (.pair tI (.pair tI (.pair tI (.pair tI (.pair tI (.pair (.pair (.sl (.pair tI tV)) (.pair (.sl tIs) tI)) (.pair (.sl (.pair tI (.pair tI (.pair tI .bool)))) tI))))))),.val tI] (fun x=>x) (fun x=>x) (fun _=>rfl)
 (fun _=>none)
 (fun x=>.bool (vB x.1.2.1 x.2.1)) (by kernel_rfl) (by
  rintro⟨⟨A,⟨y,⟨D,⟨C,⟨B,⟨⟨u,⟨v,w⟩⟩,⟨b,z⟩⟩⟩⟩⟩⟩⟩,who,⟨⟩⟩ hp
  refine yK hm (by kernel_rfl) (by kernel_rfl) (T_member A y D C B u v w b z who) trivial ?_
  try dsimp only at hp
  try dsimp only
  refine⟨fun c1=>?_,fun c1=>?_⟩
  ·exact congrArg SV.bool (show _=vB y who by unfold vB;rw[c1,Bool.true_and])
  ·exact congrArg SV.bool (show _=vB y who by unfold vB;rw[c1,Bool.false_and]))
theorem T_open1(p_0 p_1 p_2:Int)(p_3:Bool):jD (P:=P) [] (zH []) Tryz.f107 (z_ 0 [.agg (.pair tI (.pair tI (.pair tI .bool)))] ((p_0,(p_1,(p_2,p_3))),())) =
 Tree.leaf (.bool p_3):=by kernel_rfl
def c_open1:PC P:=PC.of (α:=(Int×(Int×(Int×Bool)))×Unit) 107 [.agg (.pair tI (.pair tI (.pair tI .bool)))] (fun x=>x) (fun x=>x) (fun _=>rfl)
 (fun _=>none)
 (fun x=>.bool (gG x.1)) (by kernel_rfl) (by
  rintro⟨⟨p_0,⟨p_1,⟨p_2,p_3⟩⟩⟩,⟨⟩⟩ hp
  refine yK hm (by kernel_rfl) (by kernel_rfl) (T_open1 p_0 p_1 p_2 p_3) trivial ?_
  exact rfl)
def fP:Lay:={ slots:=[(0,.val (.sl tPm)),(1,.fn 107)] }
def L_ixOL:Lay:={ slots:=[(0,.val (.sl tPm)),(1,.fn 107),(7,.val tI),(8,.val tI)] }
def L_ixOL_0:Lay:={ slots:=[] }
def L_ixOL_1:Lay:={ slots:=[(4,.val tI)] }
def X_ixOL:Exit->St->Option Lay
 |.exit 0,_=>some L_ixOL_0
 |.ret,_=>some L_ixOL_1
 |_,_=>none
abbrev C_ixOL:Code:=jH (zJ Tryz.f106) 0
abbrev AuG4:Type:=List Pm×Unit×Int×Int×Unit
theorem B_ixOL(l:List Pm)(n i:Int):zF (P:=P) [c_open1.gc] (zH []) [] 19 (usd noU (fP.ids++jC v_ fP.shs)) (jI C_ixOL) L_ixOL X_ixOL (α:=AuG4) (fun x=>x) (fun x=>x) (l,(),n,i,()) =
 Tree.cond (decide (i<n)) (.need (0<=i/\i<(l.length:Int)) (.cond (gG (l.getD i.toNat (0,0,0,false))) (.leaf (Sum.inr (Exit.ret,Lay.st L_ixOL_1 (usd noU (Lay.ids fP++jC v_ (Lay.shs fP))) (i,())))) (.leaf (Sum.inl (l,(),n,IntKind.i64.wrap (i+1),()))))) (.leaf (Sum.inr (Exit.exit 0,Lay.st L_ixOL_0 (usd noU (Lay.ids fP++jC v_ (Lay.shs fP))) ()))):=by kernel_rfl
def inv_ixOL:AuG4->Prop:=fun(l,_,n,i,_)=>n=l.length/\0<=i/\i<=n/\(l.length:Int)<2 ^ 62
def O_ixOL:AuG4->Tree (Exit×St):=fun(l,_,_,i,_)=>.cond ((l.drop i.toNat).any gG) (.leaf (.ret,L_ixOL_1.st (usd noU (fP.ids++jC v_ fP.shs)) (ixR gG l i,()))) (.leaf (.exit 0,L_ixOL_0.st (usd noU (fP.ids++jC v_ fP.shs)) ()))
def R_ixOL:jS:=j_ 19 L_ixOL (fun x=>x) inv_ixOL O_ixOL
theorem K_ixOL:zU P [] 19 none (usd noU (fP.ids++jC v_ fP.shs)) C_ixOL R_ixOL:=by
 refine zT hm (cx:=[c_open1.gc]) [] (xl:=X_ixOL) (α:=AuG4) (fun x=>x) (fun(_,_,n,i,_)=>(n - i).toNat) (fun _=>rfl) (by kernel_rfl) (by kernel_rfl) ?_ (by kernel_rfl) trivial ?_
 ·intro e S L' h
  unfold X_ixOL at h
  split at h<;>cases h<;>kernel_rfl
 ·rintro⟨l,⟨⟩,n,i,⟨⟩⟩ hinv Q hQ
  refine zD (B_ixOL l n i) ?_
  obtain⟨rfl,h0,h1,h2⟩:=hinv
  rw[jZ (n:=i+1) (by omega) (by omega)]
  unfold O_ixOL at hQ
  dsimp only at hQ
  refine⟨fun hi=>?_,fun hi=>?_⟩
  ·simp only[decide_eq_true_eq] at hi
   have hm:((l.length:Int) - (i+1)).toNat<((l.length:Int) - i).toNat:=by omega
   obtain⟨e1,e2,e3⟩:=ix_step (p:=gG) ((0,0,0,false):Pm) h0 hi
   rw[e1] at hQ
   refine⟨⟨h0,hi⟩,fun hp=>?_,fun hp=>?_⟩
   ·replace hp:(gG) (l.getD i.toNat ((0,0,0,false):Pm))=true:=hp
    rw[hp,Bool.true_or,e2 hp] at hQ
    exact hQ.1 rfl
   ·replace hp:(gG) (l.getD i.toNat ((0,0,0,false):Pm))=false:=hp
    rw[hp,Bool.false_or,e3 hp] at hQ
    exact⟨⟨⟨rfl,by omega,by omega,h2⟩,hm⟩,hQ⟩
  ·simp only[decide_eq_false_iff_not] at hi
   rw[jB hi] at hQ
   exact hQ.2 rfl
def L_ixO:Lay:={ slots:=[(0,.val (.sl tPm)),(1,.fn 107)] }
theorem T_ixO(l:List Pm):jG (P:=P) [] (zH [(0,R_ixOL)]) Tryz.f106 L_ixO true (l,(),()) =
 Tree.need (inv_ixOL (l,(),(l.length:Int),0,())) (.cond (List.any (List.drop (Int.toNat 0) l) gG) (.leaf { res:=.int .i64 (ixR gG l 0),boxes:=[] }) (.leaf { res:=.int .i64 (-1:Int),boxes:=[] })):=by kernel_rfl
def c_ixO:MC P:=MC.of (α:=List Pm×Unit×Unit) 106 L_ixO (fun x=>x) (fun x=>x) (fun _=>rfl)
 (fun(l,_)=>some ((l.length:Int)<2 ^ 62))
 (fun(l,_)=>⟨.int .i64 (ixS gG l),[],[]⟩) (by kernel_rfl) (by kernel_rfl) (by kernel_rfl) (by
  rintro⟨l,⟨⟩,⟨⟩⟩ hp
  refine yG hm (own:=true) (by kernel_rfl) (by kernel_rfl) (by kernel_rfl) (T_ixO l) ⟨K_ixOL,trivial⟩ ?_
  refine⟨⟨rfl,by omega,by omega,hp⟩,fun h=>?_,fun h=>?_⟩
  ·simp only[Int.toNat_zero,List.drop_zero] at h
   have e:ixR gG l 0=ixS gG l:=by
    unfold ixS ixR
    rw[if_pos h]
    simp only[Int.toNat_zero,List.drop_zero,Int.zero_add]
   exact congrArg (fun k:Int=>(⟨.int .i64 k,[],[]⟩:MOut)) e
  ·simp only[Int.toNat_zero,List.drop_zero] at h
   have e : -1=ixS gG l:=by
    unfold ixS
    rw[if_neg (by simp only[h];decide)]
   exact congrArg (fun k:Int=>(⟨.int .i64 k,[],[]⟩:MOut)) e)
def L_ixOC:Lay:={ slots:=[(0,.val (.sl tPm)),(1,.fn 107)] }
theorem T_ixOC(l:List Pm):jG (P:=P) [c_ixO.gc] (zH []) Tryz.f57 L_ixOC true (l,(),()) =
 Tree.need ((l.length:Int)<2 ^ 62) (.leaf { res:=.bool (decide (ixS gG l>=0)),boxes:=[] }):=by kernel_rfl
def c_ixOC:MC P:=MC.of (α:=List Pm×Unit×Unit) 57 L_ixOC (fun x=>x) (fun x=>x) (fun _=>rfl)
 (fun(l,_)=>some ((l.length:Int)<2 ^ 62))
 (fun(l,_)=>⟨.bool (l.any gG),[],[]⟩) (by kernel_rfl) (by kernel_rfl) (by kernel_rfl) (by
  rintro⟨l,⟨⟩,⟨⟩⟩ hp
  refine yG hm (own:=true) (by kernel_rfl) (by kernel_rfl) (by kernel_rfl) (T_ixOC l) trivial ?_
  exact⟨hp,congrArg (fun k:Bool=>(⟨.bool k,[],[]⟩:MOut)) (ixS_ge gG l)⟩)
theorem T_openS(A y D C B:Int)(u:List (Int×V))(v:List (List Int))(w:Int)(b:List (Int×(Int×(Int×Bool))))(z:Int):jD (P:=P) [c_ixOC.gc] (zH []) Tryz.f59 (z_ 0 [.agg (.pair tI (.pair tI (.pair tI (.pair tI (.pair tI (.pair (.pair (.sl (.pair tI tV)) (.pair (.sl tIs) tI)) (.pair (.sl (.pair tI (.pair tI (.pair tI .bool)))) tI)))))))] ((A,(y,(D,(C,(B,((u,(v,w)),(b,z))))))),())) =
 Tree.need ((b.length:Int)<2 ^ 62) (.leaf (.bool (List.any b gG))):=by kernel_rfl
def c_openS:PC P:=PC.of (α:=(Int×(Int×(Int×(Int×(Int×((List (Int×V)×(List (List Int)×Int))×(List (Int×(Int×(Int×Bool)))×Int)))))))×Unit) 59 [.agg (.pair tI (.pair tI (.pair tI (.pair tI (.pair tI (.pair (.pair (.sl (.pair tI tV)) (.pair (.sl tIs) tI)) (.pair (.sl (.pair tI (.pair tI (.pair tI .bool)))) tI)))))))] (fun x=>x) (fun x=>x) (fun _=>rfl)
 (fun x=>some (x.1.2.2.2.2.2.2.1.length<=1000))
 (fun x=>.bool (wK x.1)) (by kernel_rfl) (by
  rintro⟨⟨A,⟨y,⟨D,⟨C,⟨B,⟨⟨u,⟨v,w⟩⟩,⟨b,z⟩⟩⟩⟩⟩⟩⟩,⟨⟩⟩ hp
  refine yK hm (by kernel_rfl) (by kernel_rfl) (T_openS A y D C B u v w b z) trivial ?_
  try dsimp only at hp
  try dsimp only
  have hp' : b.length<=1000:=hp
  exact⟨by omega,rfl⟩)
def L_chk1:Lay:={ slots:=[(0,.agg (.pair tI (.pair tI (.pair tI .bool)))),(1,.ptr 1 0)],boxes:=[(1,[.val tI,.val tI,.val tI,.val tI,.val tI,.val (.sl (.pair tI tV)),.val (.sl tIs),.val tI,.val (.sl (.pair tI (.pair tI (.pair tI .bool)))),.val tI])] }
theorem T_chk1(p_0 p_1 p_2:Int)(p_3:Bool)(c a d f g:Int)(j:List (Int×V))(m:List (List Int))(o:Int)(q:List (Int×(Int×(Int×Bool))))(t:Int):jG (P:=P) [kY.gc,wE.gc] (zH []) Tryz.f58 L_chk1 true ((p_0,(p_1,(p_2,p_3))),(),c,a,d,f,g,j,m,o,q,t,()) =
 Tree.cond (!vB a p_1) (.leaf { res:=.bool true,boxes:=[[.int .i64 c,.int .i64 a,.int .i64 d,.int .i64 f,.int .i64 g,.sl (Ty.pair tI tV) j,.sl tIs m,.int .i64 o,.sl (Ty.pair tI (Ty.pair tI (Ty.pair tI Ty.bool))) q,.int .i64 t]] }) (.leaf { res:=.bool !wi p_2 0 2199023255552,boxes:=[[.int .i64 c,.int .i64 a,.int .i64 d,.int .i64 f,.int .i64 g,.sl (Ty.pair tI tV) j,.sl tIs m,.int .i64 o,.sl (Ty.pair tI (Ty.pair tI (Ty.pair tI Ty.bool))) q,.int .i64 t]] }):=by kernel_rfl
def c_chk1:MC P:=MC.of (α:=(Int×(Int×(Int×Bool)))×Unit×Int×Int×Int×Int×Int×List (Int×V)×List (List Int)×Int×List (Int×(Int×(Int×Bool)))×Int×Unit) 58 L_chk1 (fun x=>x) (fun x=>x) (fun _=>rfl)
 (fun _=>none)
 (fun x=>⟨.bool (qQ x.2.2.2.1 x.1),[[.int .i64 x.2.2.1,.int .i64 x.2.2.2.1,.int .i64 x.2.2.2.2.1,.int .i64 x.2.2.2.2.2.1,.int .i64 x.2.2.2.2.2.2.1,.sl tEl x.2.2.2.2.2.2.2.1,.sl tIs x.2.2.2.2.2.2.2.2.1,.int .i64 x.2.2.2.2.2.2.2.2.2.1,.sl tPm x.2.2.2.2.2.2.2.2.2.2.1,.int .i64 x.2.2.2.2.2.2.2.2.2.2.2.1]],[]⟩) (by kernel_rfl) (by kernel_rfl) (by kernel_rfl) (by
  rintro⟨⟨p_0,⟨p_1,⟨p_2,p_3⟩⟩⟩,⟨⟩,c,a,d,f,g,j,m,o,q,t,⟨⟩⟩ hp
  refine yG hm (own:=true) (by kernel_rfl) (by kernel_rfl) (by kernel_rfl) (T_chk1 p_0 p_1 p_2 p_3 c a d f g j m o q t) trivial ?_
  try dsimp only at hp
  try dsimp only
  have fin:∀n:Bool,qQ a (p_0,p_1,p_2,p_3)=n->(⟨SV.bool n,[[.int .i64 c,.int .i64 a,.int .i64 d,.int .i64 f,.int .i64 g,.sl tEl j,.sl tIs m,.int .i64 o,.sl tPm q,.int .i64 t]],[]⟩:MOut)=⟨SV.bool (qQ a (p_0,p_1,p_2,p_3)),[[.int .i64 c,.int .i64 a,.int .i64 d,.int .i64 f,.int .i64 g,.sl tEl j,.sl tIs m,.int .i64 o,.sl tPm q,.int .i64 t]],[]⟩:=fun n h=>by rw[h]
  unfold qQ at fin
  dsimp only at fin
  refine⟨fun c1=>?_,fun c1=>?_⟩
  ·exact fin _ (by rw[c1,Bool.true_or])
  ·exact fin _ (by rw[c1,Bool.false_or]))
def fQ:Lay:={ slots:=[(0,.val (.sl tPm)),(1,.clo 58 [(1,0)])],boxes:=[(1,[.val tI,.val tI,.val tI,.val tI,.val tI,.val tEls,.val gR,.val tI,.val gP,.val tI])] }
def L_ixKL:Lay:={ slots:=[(0,.val (.sl tPm)),(1,.clo 58 [(1,0)]),(7,.val tI),(8,.val tI)],boxes:=[(1,[.val tI,.val tI,.val tI,.val tI,.val tI,.val tEls,.val gR,.val tI,.val gP,.val tI])] }
def L_ixKL_0:Lay:={ slots:=[],boxes:=[(1,[.val tI,.val tI,.val tI,.val tI,.val tI,.val tEls,.val gR,.val tI,.val gP,.val tI])] }
def L_ixKL_1:Lay:={ slots:=[(4,.val tI)],boxes:=[(1,[.val tI,.val tI,.val tI,.val tI,.val tI,.val tEls,.val gR,.val tI,.val gP,.val tI])] }
def X_ixKL:Exit->St->Option Lay
 |.exit 0,_=>some L_ixKL_0
 |.ret,_=>some L_ixKL_1
 |_,_=>none
abbrev C_ixKL:Code:=jH (zJ Tryz.f106) 0
abbrev AuG2:Type:=List Pm×Unit×Int×Int×Int×Int×Int×Int×Int×List E4×List (List Int)×Int×List Pm×Int×Unit
theorem B_ixKL(l:List Pm)(n i:Int)(c a d f g:Int)(j:List E4)(m:List (List Int))(o:Int)(q:List Pm)(t:Int):zF (P:=P) [c_chk1.gc] (zH []) [] 19 (usd noU (fQ.ids++jC v_ fQ.shs)) (jI C_ixKL) L_ixKL X_ixKL (α:=AuG2) (fun x=>x) (fun x=>x) (l,(),n,i,c,a,d,f,g,j,m,o,q,t,()) =
 Tree.cond (decide (i<n)) (.need (0<=i/\i<(l.length:Int)) (.cond (qQ a (l.getD i.toNat (0,0,0,false))) (.leaf (Sum.inr (Exit.ret,Lay.st L_ixKL_1 (usd noU (Lay.ids fQ++jC v_ (Lay.shs fQ))) (i,c,a,d,f,g,j,m,o,q,t,())))) (.leaf (Sum.inl (l,(),n,IntKind.i64.wrap (i+1),c,a,d,f,g,j,m,o,q,t,()))))) (.leaf (Sum.inr (Exit.exit 0,Lay.st L_ixKL_0 (usd noU (Lay.ids fQ++jC v_ (Lay.shs fQ))) (c,a,d,f,g,j,m,o,q,t,())))):=by kernel_rfl
def inv_ixKL:AuG2->Prop:=fun(l,_,n,i,_)=>n=l.length/\0<=i/\i<=n/\(l.length:Int)<2 ^ 62
def O_ixKL:AuG2->Tree (Exit×St):=fun(l,_,_,i,c,a,d,f,g,j,m,o,q,t,_)=>.cond ((l.drop i.toNat).any (qQ a)) (.leaf (.ret,L_ixKL_1.st (usd noU (fQ.ids++jC v_ fQ.shs)) (ixR (qQ a) l i,c,a,d,f,g,j,m,o,q,t,()))) (.leaf (.exit 0,L_ixKL_0.st (usd noU (fQ.ids++jC v_ fQ.shs)) (c,a,d,f,g,j,m,o,q,t,())))
def R_ixKL:jS:=j_ 19 L_ixKL (fun x=>x) inv_ixKL O_ixKL
theorem K_ixKL:zU P [] 19 none (usd noU (fQ.ids++jC v_ fQ.shs)) C_ixKL R_ixKL:=by
 refine zT hm (cx:=[c_chk1.gc]) [] (xl:=X_ixKL) (α:=AuG2) (fun x=>x) (fun(_,_,n,i,_)=>(n - i).toNat) (fun _=>rfl) (by kernel_rfl) (by kernel_rfl) ?_ (by kernel_rfl) trivial ?_
 ·intro e S L' h
  unfold X_ixKL at h
  split at h<;>cases h<;>kernel_rfl
 ·rintro⟨l,⟨⟩,n,i,c,a,d,f,g,j,m,o,q,t,⟨⟩⟩ hinv Q hQ
  refine zD (B_ixKL l n i c a d f g j m o q t) ?_
  obtain⟨rfl,h0,h1,h2⟩:=hinv
  rw[jZ (n:=i+1) (by omega) (by omega)]
  unfold O_ixKL at hQ
  dsimp only at hQ
  refine⟨fun hi=>?_,fun hi=>?_⟩
  ·simp only[decide_eq_true_eq] at hi
   have hm:((l.length:Int) - (i+1)).toNat<((l.length:Int) - i).toNat:=by omega
   obtain⟨e1,e2,e3⟩:=ix_step (p:=qQ a) ((0,0,0,false):Pm) h0 hi
   rw[e1] at hQ
   refine⟨⟨h0,hi⟩,fun hp=>?_,fun hp=>?_⟩
   ·replace hp:(qQ a) (l.getD i.toNat ((0,0,0,false):Pm))=true:=hp
    rw[hp,Bool.true_or,e2 hp] at hQ
    exact hQ.1 rfl
   ·replace hp:(qQ a) (l.getD i.toNat ((0,0,0,false):Pm))=false:=hp
    rw[hp,Bool.false_or,e3 hp] at hQ
    exact⟨⟨⟨rfl,by omega,by omega,h2⟩,hm⟩,hQ⟩
  ·simp only[decide_eq_false_iff_not] at hi
   rw[jB hi] at hQ
   exact hQ.2 rfl
def L_ixK:Lay:={ slots:=[(0,.val (.sl tPm)),(1,.clo 58 [(1,0)])],boxes:=[(1,[.val tI,.val tI,.val tI,.val tI,.val tI,.val tEls,.val gR,.val tI,.val gP,.val tI])] }
theorem T_ixK(l:List Pm)(c a d f g:Int)(j:List E4)(m:List (List Int))(o:Int)(q:List Pm)(t:Int):jG (P:=P) [] (zH [(0,R_ixKL)]) Tryz.f106 L_ixK true (l,(),c,a,d,f,g,j,m,o,q,t,()) =
 Tree.need (inv_ixKL (l,(),(l.length:Int),0,c,a,d,f,g,j,m,o,q,t,())) (.cond (List.any (List.drop (Int.toNat 0) l) (qQ a)) (.leaf { res:=.int .i64 (ixR (qQ a) l 0),boxes:=[[.int .i64 c,.int .i64 a,.int .i64 d,.int .i64 f,.int .i64 g,.sl tEl j,.sl tIs m,.int .i64 o,.sl tPm q,.int .i64 t]] }) (.leaf { res:=.int .i64 (-1:Int),boxes:=[[.int .i64 c,.int .i64 a,.int .i64 d,.int .i64 f,.int .i64 g,.sl tEl j,.sl tIs m,.int .i64 o,.sl tPm q,.int .i64 t]] })):=by kernel_rfl
abbrev AuG3:Type:=List Pm×Unit×Int×Int×Int×Int×Int×List E4×List (List Int)×Int×List Pm×Int×Unit
def c_ixK:MC P:=MC.of (α:=AuG3) 106 L_ixK (fun x=>x) (fun x=>x) (fun _=>rfl)
 (fun(l,_)=>some ((l.length:Int)<2 ^ 62))
 (fun(l,_,c,a,d,f,g,j,m,o,q,t,_)=>⟨.int .i64 (ixS (qQ a) l),[[.int .i64 c,.int .i64 a,.int .i64 d,.int .i64 f,.int .i64 g,.sl tEl j,.sl tIs m,.int .i64 o,.sl tPm q,.int .i64 t]],[]⟩) (by kernel_rfl) (by kernel_rfl) (by kernel_rfl) (by
  rintro⟨l,⟨⟩,c,a,d,f,g,j,m,o,q,t,⟨⟩⟩ hp
  refine yG hm (own:=true) (by kernel_rfl) (by kernel_rfl) (by kernel_rfl) (T_ixK l c a d f g j m o q t) ⟨K_ixKL,trivial⟩ ?_
  refine⟨⟨rfl,by omega,by omega,hp⟩,fun h=>?_,fun h=>?_⟩
  ·simp only[Int.toNat_zero,List.drop_zero] at h
   have e:ixR (qQ a) l 0=ixS (qQ a) l:=by
    unfold ixS ixR
    rw[if_pos h]
    simp only[Int.toNat_zero,List.drop_zero,Int.zero_add]
   exact congrArg (fun k:Int=>(⟨.int .i64 k,[[.int .i64 c,.int .i64 a,.int .i64 d,.int .i64 f,.int .i64 g,.sl tEl j,.sl tIs m,.int .i64 o,.sl tPm q,.int .i64 t]],[]⟩:MOut)) e
  ·simp only[Int.toNat_zero,List.drop_zero] at h
   have e : -1=ixS (qQ a) l:=by
    unfold ixS
    rw[if_neg (by simp only[h];decide)]
   exact congrArg (fun k:Int=>(⟨.int .i64 k,[[.int .i64 c,.int .i64 a,.int .i64 d,.int .i64 f,.int .i64 g,.sl tEl j,.sl tIs m,.int .i64 o,.sl tPm q,.int .i64 t]],[]⟩:MOut)) e)
def L_ixKC:Lay:={ slots:=[(0,.val (.sl tPm)),(1,.clo 58 [(1,0)])],boxes:=[(1,[.val tI,.val tI,.val tI,.val tI,.val tI,.val tEls,.val gR,.val tI,.val gP,.val tI])] }
theorem T_ixKC(l:List Pm)(c a d f g:Int)(j:List E4)(m:List (List Int))(o:Int)(q:List Pm)(t:Int):jG (P:=P) [c_ixK.gc] (zH []) Tryz.f57 L_ixKC true (l,(),c,a,d,f,g,j,m,o,q,t,()) =
 Tree.need ((l.length:Int)<2 ^ 62) (.leaf { res:=.bool (decide (ixS (qQ a) l>=0)),boxes:=[[.int .i64 c,.int .i64 a,.int .i64 d,.int .i64 f,.int .i64 g,.sl tEl j,.sl tIs m,.int .i64 o,.sl tPm q,.int .i64 t]] }):=by kernel_rfl
def c_ixKC:MC P:=MC.of (α:=AuG3) 57 L_ixKC (fun x=>x) (fun x=>x) (fun _=>rfl)
 (fun(l,_)=>some ((l.length:Int)<2 ^ 62))
 (fun(l,_,c,a,d,f,g,j,m,o,q,t,_)=>⟨.bool (l.any (qQ a)),[[.int .i64 c,.int .i64 a,.int .i64 d,.int .i64 f,.int .i64 g,.sl tEl j,.sl tIs m,.int .i64 o,.sl tPm q,.int .i64 t]],[]⟩) (by kernel_rfl) (by kernel_rfl) (by kernel_rfl) (by
  rintro⟨l,⟨⟩,c,a,d,f,g,j,m,o,q,t,⟨⟩⟩ hp
  refine yG hm (own:=true) (by kernel_rfl) (by kernel_rfl) (by kernel_rfl) (T_ixKC l c a d f g j m o q t) trivial ?_
  exact⟨hp,congrArg (fun k:Bool=>(⟨.bool k,[[.int .i64 c,.int .i64 a,.int .i64 d,.int .i64 f,.int .i64 g,.sl tEl j,.sl tIs m,.int .i64 o,.sl tPm q,.int .i64 t]],[]⟩:MOut)) (ixS_ge (qQ a) l)⟩)
def L_Check0:Lay:={ slots:=[(1,.ptr 2107 0),(4,.val tI),(64,.val (.sl (.pair tI (.pair tI (.pair tI .bool))))),(65,.val tI),(66,.val tI)],boxes:=[(2107,[.val tI,.val tI,.val tI,.val tI,.val tI,.val (.sl (.pair tI tV)),.val (.sl tIs),.val tI,.val (.sl (.pair tI (.pair tI (.pair tI .bool)))),.val tI])] }
def L_Check0_0:Lay:={ slots:=[(2,.val tI)] }
def L_Check0_1:Lay:={ slots:=[(1,.ptr 2107 0)],boxes:=[(2107,[.val tI,.val tI,.val tI,.val tI,.val tI,.val (.sl (.pair tI tV)),.val (.sl tIs),.val tI,.val (.sl (.pair tI (.pair tI (.pair tI .bool)))),.val tI])] }
def X_Check0:Exit->St->Option Lay
 |.ret,_=>some L_Check0_0
 |.exit 0,_=>some L_Check0_1
 |_,_=>none
abbrev C_Check0:Code:=jH (zJ Tryz.f18) 0
abbrev AuG1:Type:=Unit×Int×List (Int×(Int×(Int×Bool)))×Int×Int×Int×Int×Int×Int×Int×List (Int×V)×List (List Int)×Int×List (Int×(Int×(Int×Bool)))×Int×Unit
theorem B_Check0(last:Int)(l:List (Int×(Int×(Int×Bool))))(n i qI gH qH qG qF:Int)(qE:List (Int×V))(pM:List (List Int))(qD:Int)(kZ:List (Int×(Int×(Int×Bool))))(qC:Int):zF (P:=P) [] (zH []) [] 107 noU (jI C_Check0) L_Check0 X_Check0 (α:=AuG1) (fun x=>x) (fun x=>x) ((),last,l,n,i,qI,gH,qH,qG,qF,qE,pM,qD,kZ,qC,()) =
 Tree.cond (decide (i<n)) (.need (0<=i/\i<(l.length:Int)) (.cond (decide ((l.getD i.toNat (0,0,0,false)).1<=last)) (.leaf (Sum.inr (Exit.ret,Lay.st L_Check0_0 noU ((11:Int),())))) (.cond (decide ((l.getD i.toNat (0,0,0,false)).1>=16)) (.leaf (Sum.inr (Exit.ret,Lay.st L_Check0_0 noU ((11:Int),())))) (.leaf (Sum.inl ((),(l.getD i.toNat (0,0,0,false)).1,l,n,IntKind.i64.wrap (i+1),qI,gH,qH,qG,qF,qE,pM,qD,kZ,qC,())))))) (.leaf (Sum.inr (Exit.exit 0,Lay.st L_Check0_1 noU ((),qI,gH,qH,qG,qF,qE,pM,qD,kZ,qC,())))):=by kernel_rfl
def inv_Check0:AuG1->Prop:=fun(_,_,l,n,i,_)=>0<=i/\i<=n/\n=l.length/\l.length<=1000
def O_Check0:AuG1->Tree (Exit×St):=fun(_,last,l,_,i,qI,gH,qH,qG,qF,qE,pM,qD,kZ,qC,_)=>.cond (qW last (l.drop i.toNat)) (.leaf (.ret,L_Check0_0.st noU (((11:Int)),()))) (.leaf (.exit 0,L_Check0_1.st noU ((),qI,gH,qH,qG,qF,qE,pM,qD,kZ,qC,())))
def R_Check0:jS:=j_ 107 L_Check0 (fun x=>x) inv_Check0 O_Check0
theorem K_Check0:zU P [] 107 none noU C_Check0 R_Check0:=by
 refine zT hm (cx:=[]) [] (xl:=X_Check0) (α:=AuG1) (fun x=>x) (fun(_,_,_,n,i,_)=>(n - i).toNat) (fun _=>rfl) (by kernel_rfl) (by kernel_rfl) ?_ (by kernel_rfl) trivial ?_
 ·intro e S L' h
  unfold X_Check0 at h
  split at h<;>cases h<;>kernel_rfl
 ·rintro⟨⟨⟩,last,l,n,i,qI,gH,qH,qG,qF,qE,pM,qD,kZ,qC,⟨⟩⟩ hinv Q hQ
  refine zD (B_Check0 last l n i qI gH qH qG qF qE pM qD kZ qC) ?_
  obtain⟨h0,h1,rfl,h2⟩:=hinv
  rw[jZ (n:=i+1) (by omega) (by omega)]
  unfold O_Check0 at hQ
  dsimp only at hQ
  refine⟨fun d1=>?_,fun d1=>?_⟩
  ·have d1:=dcT d1
   rw[ordB_step h0 d1] at hQ
   refine⟨⟨h0,d1⟩,fun d2=>?_,fun d2=>⟨fun d3=>?_,fun d3=>?_⟩⟩
   ·rw[d2,Bool.true_or] at hQ
    exact hQ.1 rfl
   ·rw[d3,Bool.true_or,Bool.or_true] at hQ
    exact hQ.1 rfl
   ·rw[d2,d3,Bool.false_or,Bool.false_or] at hQ
    exact⟨⟨⟨by omega,by omega,rfl,h2⟩,by show ((l.length:Int) - (i+1)).toNat<((l.length:Int) - i).toNat;omega⟩,hQ⟩
  ·have d1:=dcF d1
   rw[jB d1] at hQ
   exact hQ.2 rfl
theorem T_Check(A y D C B:Int)(u:List (Int×V))(v:List (List Int))(w:Int)(b:List (Int×(Int×(Int×Bool))))(z:Int):jD (P:=P) [wE.gc,kY.gc,c_House.gc,c_ixKC.gc,c_openS.gc,c_holds.gc] (zH [(0,R_Check0)]) Tryz.f18 (z_ 0 [.agg (.pair tI (.pair tI (.pair tI (.pair tI (.pair tI (.pair (.pair (.sl (.pair tI tV)) (.pair (.sl tIs) tI)) (.pair (.sl (.pair tI (.pair tI (.pair tI .bool)))) tI)))))))] ((A,(y,(D,(C,(B,((u,(v,w)),(b,z))))))),())) =
 Tree.cond (!wi A 0 1099511627776) (.leaf (.int .i64 2)) (.cond (decide (y<1)) (.leaf (.int .i64 2)) (.cond (decide (y>20)) (.leaf (.int .i64 2)) (.cond (!vB y D) (.leaf (.int .i64 2)) (.cond (C != (-1:Int)) (.cond (!vB y C) (.leaf (.int .i64 2)) (.cond (C==D) (.leaf (.int .i64 2)) (.cond (!wi B 0 68719476736) (.leaf (.int .i64 2)) (.need (hOk (u,v,w)) (.cond (zB (u,v,w) != 0) (.leaf (.int .i64 (zB (u,v,w)))) (.cond (decide ((b.length:Int)>16)) (.leaf (.int .i64 8)) (.need (inv_Check0 ((),(-1:Int),b,(b.length:Int),0,A,y,D,C,B,u,v,w,b,z,())) (.cond (qW (-1:Int) (List.drop (Int.toNat 0) b)) (.leaf (.int .i64 11)) (.need ((b.length:Int)<2 ^ 62) (.cond (List.any b (qQ y)) (.leaf (.int .i64 2)) (.need (b.length<=1000) (.cond (!wK (A,y,D,C,B,(u,v,w),b,z)) (.cond (z != (-1:Int)) (.leaf (.int .i64 10)) (.leaf (.int .i64 0))) (.need (zB (u,v,w)=0) (.cond (zQ (u,v,w) A B) (.cond (z != (-1:Int)) (.leaf (.int .i64 10)) (.leaf (.int .i64 0))) (.cond (!wi z 0 A) (.leaf (.int .i64 10)) (.leaf (.int .i64 0))))))))))))))))) (.cond (C==D) (.leaf (.int .i64 2)) (.cond (!wi B 0 68719476736) (.leaf (.int .i64 2)) (.need (hOk (u,v,w)) (.cond (zB (u,v,w) != 0) (.leaf (.int .i64 (zB (u,v,w)))) (.cond (decide ((b.length:Int)>16)) (.leaf (.int .i64 8)) (.need (inv_Check0 ((),(-1:Int),b,(b.length:Int),0,A,y,D,C,B,u,v,w,b,z,())) (.cond (qW (-1:Int) (List.drop (Int.toNat 0) b)) (.leaf (.int .i64 11)) (.need ((b.length:Int)<2 ^ 62) (.cond (List.any b (qQ y)) (.leaf (.int .i64 2)) (.need (b.length<=1000) (.cond (!wK (A,y,D,C,B,(u,v,w),b,z)) (.cond (z != (-1:Int)) (.leaf (.int .i64 10)) (.leaf (.int .i64 0))) (.need (zB (u,v,w)=0) (.cond (zQ (u,v,w) A B) (.cond (z != (-1:Int)) (.leaf (.int .i64 10)) (.leaf (.int .i64 0))) (.cond (!wi z 0 A) (.leaf (.int .i64 10)) (.leaf (.int .i64 0)))))))))))))))))))):=by kernel_rfl
def c_Check:PC P:=PC.of (α:=(Int×(Int×(Int×(Int×(Int×((List (Int×V)×(List (List Int)×Int))×(List (Int×(Int×(Int×Bool)))×Int)))))))×Unit) 18 [.agg (.pair tI (.pair tI (.pair tI (.pair tI (.pair tI (.pair (.pair (.sl (.pair tI tV)) (.pair (.sl tIs) tI)) (.pair (.sl (.pair tI (.pair tI (.pair tI .bool)))) tI)))))))] (fun x=>x) (fun x=>x) (fun _=>rfl)
 (fun x=>some (sOk x.1))
 (fun x=>.int .i64 (vY x.1)) (by kernel_rfl) (by
  rintro⟨⟨A,⟨y,⟨D,⟨C,⟨B,⟨⟨u,⟨v,w⟩⟩,⟨b,z⟩⟩⟩⟩⟩⟩⟩,⟨⟩⟩ hp
  refine yK hm (by kernel_rfl) (by kernel_rfl) (T_Check A y D C B u v w b z) ⟨K_Check0,trivial⟩ ?_
  try dsimp only at hp
  try dsimp only
  obtain⟨hh,hl⟩:sOk (A,y,D,C,B,(u,v,w),b,z):=hp
  dsimp only at hh hl
  have fin:∀n:Int,vY (A,y,D,C,B,(u,v,w),b,z)=n->SV.int .i64 n=SV.int .i64 (vY (A,y,D,C,B,(u,v,w),b,z)):=fun n h=>by rw[h]
  have bad:xW (A,y,D,C,B,(u,v,w),b,z)=true->vY (A,y,D,C,B,(u,v,w),b,z)=2:=fun h=>by unfold vY;rw[if_pos h]
  have good:xW (A,y,D,C,B,(u,v,w),b,z)=false->vY (A,y,D,C,B,(u,v,w),b,z)=if zB (u,v,w)≠0 then zB (u,v,w) else if b.length>16 then 8 else if qW (-1) b=true then 11 else if b.any (qQ y)=true then 2
   else if (!wK (A,y,D,C,B,(u,v,w),b,z)||zQ (u,v,w) A B)=true then (if z ≠ -1 then 10 else 0) else if wi z 0 A=false then 10 else 0:=fun h=>by
   unfold vY
   rw[if_neg (by rw[h];decide)]
   rfl
  refine⟨fun c1=>fin _ (bad ?_),fun c1=>⟨fun c2=>fin _ (bad ?_),fun c2=>⟨fun c3=>fin _ (bad ?_),fun c3=>⟨fun c4=>fin _ (bad ?_),fun c4=>⟨fun c5=>⟨fun c6=>fin _ (bad ?_),fun c6=>⟨fun c7=>fin _ (bad ?_),fun c7=>⟨fun c8=>fin _ (bad ?_),fun c8=>?_⟩⟩⟩,fun c5=>⟨fun c7=>fin _ (bad ?_),fun c7=>⟨fun c8=>fin _ (bad ?_),fun c8=>?_⟩⟩⟩⟩⟩⟩⟩
  ·unfold xW;dsimp only;simp only[c1,Bool.true_or,Bool.or_true,Bool.false_or,Bool.or_false,Bool.true_and,Bool.false_and,Bool.and_true,Bool.and_false]
  ·unfold xW;dsimp only;simp only[c1,c2,Bool.true_or,Bool.or_true,Bool.false_or,Bool.or_false,Bool.true_and,Bool.false_and,Bool.and_true,Bool.and_false]
  ·unfold xW;dsimp only;simp only[c1,c2,c3,Bool.true_or,Bool.or_true,Bool.false_or,Bool.or_false,Bool.true_and,Bool.false_and,Bool.and_true,Bool.and_false]
  ·unfold xW;dsimp only;simp only[c1,c2,c3,c4,Bool.true_or,Bool.or_true,Bool.false_or,Bool.or_false,Bool.true_and,Bool.false_and,Bool.and_true,Bool.and_false]
  ·unfold xW;dsimp only;simp only[c1,c2,c3,c4,c5,c6,Bool.true_or,Bool.or_true,Bool.false_or,Bool.or_false,Bool.true_and,Bool.false_and,Bool.and_true,Bool.and_false]
  ·unfold xW;dsimp only;simp only[c1,c2,c3,c4,c5,c6,c7,Bool.true_or,Bool.or_true,Bool.false_or,Bool.or_false,Bool.true_and,Bool.false_and,Bool.and_true,Bool.and_false]
  ·unfold xW;dsimp only;simp only[c1,c2,c3,c4,c5,c6,c7,c8,Bool.true_or,Bool.or_true,Bool.false_or,Bool.or_false,Bool.true_and,Bool.false_and,Bool.and_true,Bool.and_false]
  rotate_left
  ·unfold xW;dsimp only;simp only[c1,c2,c3,c4,c5,c7,Bool.true_or,Bool.or_true,Bool.false_or,Bool.or_false,Bool.true_and,Bool.false_and,Bool.and_true,Bool.and_false]
  ·unfold xW;dsimp only;simp only[c1,c2,c3,c4,c5,c7,c8,Bool.true_or,Bool.or_true,Bool.false_or,Bool.or_false,Bool.true_and,Bool.false_and,Bool.and_true,Bool.and_false]
  rotate_left
  ·have hb:=good (by unfold xW;dsimp only;simp only[c1,c2,c3,c4,c5,c6,c7,c8,Bool.true_or,Bool.or_true,Bool.false_or,Bool.or_false,Bool.true_and,Bool.false_and,Bool.and_true,Bool.and_false])
   refine⟨hh,fun d1=>fin _ ?_,fun d1=>⟨fun d2=>fin _ ?_,fun d2=>⟨⟨by decide,by omega,rfl,hl⟩,fun d3=>fin _ ?_,fun d3=>⟨by omega,fun d4=>fin _ ?_,fun d4=>⟨hl,fun d5=>⟨fun d6=>fin _ ?_,fun d6=>fin _ ?_⟩,fun d5=>⟨?_,fun d7=>⟨fun d6=>fin _ ?_,fun d6=>fin _ ?_⟩,fun d7=>⟨fun d8=>fin _ ?_,fun d8=>fin _ ?_⟩⟩⟩⟩⟩⟩⟩
   all_goals try rw[hb]
   ·rw[if_pos (by simpa using d1)]
   all_goals have d1:zB (u,v,w)=0:=by simpa using d1
   all_goals try rw[if_neg (fun h=>h d1)]
   ·have d2:=dcT d2
    rw[if_pos (by omega)]
   all_goals have d2:=dcF d2
   all_goals try rw[if_neg (by omega)]
   ·have d3:qW (-1) b=true:=d3
    rw[if_pos d3]
   all_goals have d3:qW (-1) b=false:=d3
   all_goals try rw[if_neg (by rw[d3];decide)]
   ·rw[if_pos d4]
   all_goals try rw[if_neg (by rw[d4];decide)]
   ·rw[d5,Bool.true_or,if_pos rfl,if_pos (by simpa using d6)]
   ·rw[d5,Bool.true_or,if_pos rfl,if_neg (by simpa using d6)]
   ·exact d1
   all_goals rw[d5,d7,Bool.false_or]
   ·rw[if_pos rfl,if_pos (by simpa using d6)]
   ·rw[if_pos rfl,if_neg (by simpa using d6)]
   ·rw[if_neg (by decide),if_pos (by simpa using d8)]
   ·rw[if_neg (by decide),if_neg (by simpa using d8)]
  ·have hb:=good (by unfold xW;dsimp only;simp only[c1,c2,c3,c4,c5,c7,c8,Bool.true_or,Bool.or_true,Bool.false_or,Bool.or_false,Bool.true_and,Bool.false_and,Bool.and_true,Bool.and_false])
   refine⟨hh,fun d1=>fin _ ?_,fun d1=>⟨fun d2=>fin _ ?_,fun d2=>⟨⟨by decide,by omega,rfl,hl⟩,fun d3=>fin _ ?_,fun d3=>⟨by omega,fun d4=>fin _ ?_,fun d4=>⟨hl,fun d5=>⟨fun d6=>fin _ ?_,fun d6=>fin _ ?_⟩,fun d5=>⟨?_,fun d7=>⟨fun d6=>fin _ ?_,fun d6=>fin _ ?_⟩,fun d7=>⟨fun d8=>fin _ ?_,fun d8=>fin _ ?_⟩⟩⟩⟩⟩⟩⟩
   all_goals try rw[hb]
   ·rw[if_pos (by simpa using d1)]
   all_goals have d1:zB (u,v,w)=0:=by simpa using d1
   all_goals try rw[if_neg (fun h=>h d1)]
   ·have d2:=dcT d2
    rw[if_pos (by omega)]
   all_goals have d2:=dcF d2
   all_goals try rw[if_neg (by omega)]
   ·have d3:qW (-1) b=true:=d3
    rw[if_pos d3]
   all_goals have d3:qW (-1) b=false:=d3
   all_goals try rw[if_neg (by rw[d3];decide)]
   ·rw[if_pos d4]
   all_goals try rw[if_neg (by rw[d4];decide)]
   ·rw[d5,Bool.true_or,if_pos rfl,if_pos (by simpa using d6)]
   ·rw[d5,Bool.true_or,if_pos rfl,if_neg (by simpa using d6)]
   ·exact d1
   all_goals rw[d5,d7,Bool.false_or]
   ·rw[if_pos rfl,if_pos (by simpa using d6)]
   ·rw[if_pos rfl,if_neg (by simpa using d6)]
   ·rw[if_neg (by decide),if_pos (by simpa using d8)]
   ·rw[if_neg (by decide),if_neg (by simpa using d8)])
end
end Go.MB
