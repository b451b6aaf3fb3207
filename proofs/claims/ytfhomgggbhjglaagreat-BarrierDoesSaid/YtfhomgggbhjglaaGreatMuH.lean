/- Entries that hand over the command, at a site where no operation goes on. -/
import Derived.Test.YtfhomgggbhjglaaGreatMuG
namespace Go.MB
open Go Go.Sx Go.Proofs
set_option linter.unusedVariables false
set_option linter.unusedSimpArgs false
noncomputable section
def L_keeps:Lay:={ slots:=[(0,.ptr 1 0),(1,.val tI)],boxes:=[(1,[.val tI,.val tI,.val tI,.val tI,.val tI,.val (.sl (.pair tI tV)),.val (.sl tIs),.val tI,.val (.sl (.pair tI (.pair tI (.pair tI .bool)))),.val tI])] }
theorem T_keeps(tick F D G H E:Int)(z:List (Int×V))(A:List (List Int))(B:Int)(C:List (Int×(Int×(Int×Bool))))(y:Int):jG (P:=P) [c_openS.gc,c_holds.gc] (zH []) Tryz.f100 L_keeps true ((),tick,F,D,G,H,E,z,A,B,C,y,()) =
 Tree.need (C.length<=1000) (.cond (!wK (F,D,G,H,E,(z,A,B),C,y)) (.leaf { res:=.bool true,boxes:=[[.int .i64 F,.int .i64 D,.int .i64 G,.int .i64 H,.int .i64 E,.sl (Ty.pair tI tV) z,.sl tIs A,.int .i64 B,.sl (Ty.pair tI (Ty.pair tI (Ty.pair tI Ty.bool))) C,.int .i64 y]] }) (.need (zB (z,A,B)=0) (.leaf { res:=.bool (zQ (z,A,B) tick E),boxes:=[[.int .i64 F,.int .i64 D,.int .i64 G,.int .i64 H,.int .i64 E,.sl (Ty.pair tI tV) z,.sl tIs A,.int .i64 B,.sl (Ty.pair tI (Ty.pair tI (Ty.pair tI Ty.bool))) C,.int .i64 y]] }))):=by kernel_rfl
def c_keeps:MC P:=MC.of (α:=Unit×Int×Int×Int×Int×Int×Int×List (Int×V)×List (List Int)×Int×List (Int×(Int×(Int×Bool)))×Int×Unit) 100 L_keeps (fun x=>x) (fun x=>x) (fun _=>rfl)
 (fun x=>some (zB (x.2.2.2.2.2.2.2.1,x.2.2.2.2.2.2.2.2.1,x.2.2.2.2.2.2.2.2.2.1)=0/\x.2.2.2.2.2.2.2.2.2.2.1.length<=1000))
 (fun x=>⟨.bool (jM (x.2.2.1,x.2.2.2.1,x.2.2.2.2.1,x.2.2.2.2.2.1,x.2.2.2.2.2.2.1,(x.2.2.2.2.2.2.2.1,x.2.2.2.2.2.2.2.2.1,x.2.2.2.2.2.2.2.2.2.1),x.2.2.2.2.2.2.2.2.2.2.1,x.2.2.2.2.2.2.2.2.2.2.2.1) x.2.1),[[.int .i64 x.2.2.1,.int .i64 x.2.2.2.1,.int .i64 x.2.2.2.2.1,.int .i64 x.2.2.2.2.2.1,.int .i64 x.2.2.2.2.2.2.1,.sl tEl x.2.2.2.2.2.2.2.1,.sl tIs x.2.2.2.2.2.2.2.2.1,.int .i64 x.2.2.2.2.2.2.2.2.2.1,.sl tPm x.2.2.2.2.2.2.2.2.2.2.1,.int .i64 x.2.2.2.2.2.2.2.2.2.2.2.1]],[]⟩) (by kernel_rfl) (by kernel_rfl) (by kernel_rfl) (by
  rintro⟨⟨⟩,tick,F,D,G,H,E,z,A,B,C,y,⟨⟩⟩ hp
  refine yG hm (own:=true) (by kernel_rfl) (by kernel_rfl) (by kernel_rfl) (T_keeps tick F D G H E z A B C y) trivial ?_
  try dsimp only at hp
  try dsimp only
  obtain⟨h1,h2⟩:zB (z,A,B)=0/\C.length<=1000:=hp
  have fin:∀n:Bool,jM (F,D,G,H,E,(z,A,B),C,y) tick=n->(⟨SV.bool n,[[.int .i64 F,.int .i64 D,.int .i64 G,.int .i64 H,.int .i64 E,.sl tEl z,.sl tIs A,.int .i64 B,.sl tPm C,.int .i64 y]],[]⟩:MOut)=⟨SV.bool (jM (F,D,G,H,E,(z,A,B),C,y) tick),[[.int .i64 F,.int .i64 D,.int .i64 G,.int .i64 H,.int .i64 E,.sl tEl z,.sl tIs A,.int .i64 B,.sl tPm C,.int .i64 y]],[]⟩:=fun n h=>by rw[h]
  unfold jM at fin
  dsimp only at fin
  refine⟨h2,fun c1=>fin _ ?_,fun c1=>⟨h1,fin _ ?_⟩⟩
  ·rw[c1,Bool.true_or]
  ·rw[c1,Bool.false_or])
def offB(s:zE)(e:zN):Bool:=!vB s.2.1 e.2.2.2.2.1||(e.2.2.2.2.1==s.2.2.1)
def pL(s:zE)(e:zN):Int:=if (e.2.2.1 != s.2.2.1)=true then 10 else if offB s e=true then 2 else 0
def gX(s:zE)(e:zN):Int:=if pL s e=0 then e.2.2.2.2.1 else s.2.2.2.1
def L_offer:Lay:={ slots:=[(0,.ptr 1 0),(1,.agg (.pair tI (.pair tI (.pair tI tV))))],boxes:=[(1,[.val tI,.val tI,.val tI,.val tI,.val tI,.val (.sl (.pair tI tV)),.val (.sl tIs),.val tI,.val (.sl (.pair tI (.pair tI (.pair tI .bool)))),.val tI])] }
theorem T_offer(E0 E1 E2 E3 E4 E5 F D G H E:Int)(z:List (Int×V))(A:List (List Int))(B:Int)(C:List (Int×(Int×(Int×Bool))))(y:Int):jG (P:=P) [kY.gc] (zH []) Tryz.f139 L_offer true ((),(E0,(E1,(E2,(E3,(E4,E5))))),F,D,G,H,E,z,A,B,C,y,()) =
 Tree.cond (E2 != G) (.leaf { res:=.int .i64 10,boxes:=[[.int .i64 F,.int .i64 D,.int .i64 G,.int .i64 H,.int .i64 E,.sl (Ty.pair tI tV) z,.sl tIs A,.int .i64 B,.sl (Ty.pair tI (Ty.pair tI (Ty.pair tI Ty.bool))) C,.int .i64 y]] }) (.cond (!vB D E4) (.leaf { res:=.int .i64 2,boxes:=[[.int .i64 F,.int .i64 D,.int .i64 G,.int .i64 H,.int .i64 E,.sl (Ty.pair tI tV) z,.sl tIs A,.int .i64 B,.sl (Ty.pair tI (Ty.pair tI (Ty.pair tI Ty.bool))) C,.int .i64 y]] }) (.cond (E4==G) (.leaf { res:=.int .i64 2,boxes:=[[.int .i64 F,.int .i64 D,.int .i64 G,.int .i64 H,.int .i64 E,.sl (Ty.pair tI tV) z,.sl tIs A,.int .i64 B,.sl (Ty.pair tI (Ty.pair tI (Ty.pair tI Ty.bool))) C,.int .i64 y]] }) (.leaf { res:=.int .i64 0,boxes:=[[.int .i64 F,.int .i64 D,.int .i64 G,.int .i64 E4,.int .i64 E,.sl (Ty.pair tI tV) z,.sl tIs A,.int .i64 B,.sl (Ty.pair tI (Ty.pair tI (Ty.pair tI Ty.bool))) C,.int .i64 y]] }))):=by kernel_rfl
def c_offer:MC P:=MC.of (α:=Unit×(Int×(Int×(Int×V)))×Int×Int×Int×Int×Int×List (Int×V)×List (List Int)×Int×List (Int×(Int×(Int×Bool)))×Int×Unit) 139 L_offer (fun x=>x) (fun x=>x) (fun _=>rfl)
 (fun _=>none)
 (fun x=>⟨.int .i64 (pL (x.2.2.1,x.2.2.2.1,x.2.2.2.2.1,x.2.2.2.2.2.1,x.2.2.2.2.2.2.1,(x.2.2.2.2.2.2.2.1,x.2.2.2.2.2.2.2.2.1,x.2.2.2.2.2.2.2.2.2.1),x.2.2.2.2.2.2.2.2.2.2.1,x.2.2.2.2.2.2.2.2.2.2.2.1) x.2.1),[[.int .i64 x.2.2.1,.int .i64 x.2.2.2.1,.int .i64 x.2.2.2.2.1,.int .i64 (gX (x.2.2.1,x.2.2.2.1,x.2.2.2.2.1,x.2.2.2.2.2.1,x.2.2.2.2.2.2.1,(x.2.2.2.2.2.2.2.1,x.2.2.2.2.2.2.2.2.1,x.2.2.2.2.2.2.2.2.2.1),x.2.2.2.2.2.2.2.2.2.2.1,x.2.2.2.2.2.2.2.2.2.2.2.1) x.2.1),.int .i64 x.2.2.2.2.2.2.1,.sl tEl x.2.2.2.2.2.2.2.1,.sl tIs x.2.2.2.2.2.2.2.2.1,.int .i64 x.2.2.2.2.2.2.2.2.2.1,.sl tPm x.2.2.2.2.2.2.2.2.2.2.1,.int .i64 x.2.2.2.2.2.2.2.2.2.2.2.1]],[]⟩) (by kernel_rfl) (by kernel_rfl) (by kernel_rfl) (by
  rintro⟨⟨⟩,⟨E0,⟨E1,⟨E2,⟨E3,⟨E4,E5⟩⟩⟩⟩⟩,F,D,G,H,E,z,A,B,C,y,⟨⟩⟩ hp
  refine yG hm (own:=true) (by kernel_rfl) (by kernel_rfl) (by kernel_rfl) (T_offer E0 E1 E2 E3 E4 E5 F D G H E z A B C y) trivial ?_
  try dsimp only at hp
  try dsimp only
  have fin:∀n m:Int,pL (F,D,G,H,E,(z,A,B),C,y) (E0,E1,E2,E3,E4,E5)=n->gX (F,D,G,H,E,(z,A,B),C,y) (E0,E1,E2,E3,E4,E5)=m->(⟨SV.int .i64 n,[[.int .i64 F,.int .i64 D,.int .i64 G,.int .i64 m,.int .i64 E,.sl tEl z,.sl tIs A,.int .i64 B,.sl tPm C,.int .i64 y]],[]⟩:MOut)=⟨.int .i64 (pL (F,D,G,H,E,(z,A,B),C,y) (E0,E1,E2,E3,E4,E5)),[[.int .i64 F,.int .i64 D,.int .i64 G,.int .i64 (gX (F,D,G,H,E,(z,A,B),C,y) (E0,E1,E2,E3,E4,E5)),.int .i64 E,.sl tEl z,.sl tIs A,.int .i64 B,.sl tPm C,.int .i64 y]],[]⟩:=fun n m h k=>by rw[h,k]
  unfold gX pL offB at fin
  dsimp only at fin
  refine⟨fun c1=>fin _ _ ?_ ?_,fun c1=>⟨fun c2=>fin _ _ ?_ ?_,fun c2=>⟨fun c3=>fin _ _ ?_ ?_,fun c3=>fin _ _ ?_ ?_⟩⟩⟩
  ·simp[c1]
  ·simp[c1]
  ·simp[c1,c2]
  ·simp[c1,c2]
  ·simp[c1,c2,c3]
  ·simp[c1,c2,c3]
  ·simp[c1,c2,c3]
  ·simp[c1,c2,c3])
def gO(s:zE)(e:zN):Int:=if (e.2.2.1 != s.2.2.2.1)=true then 10 else 0
def fK(s:zE)(e:zN):Int:=if gO s e=0 then e.2.2.1 else s.2.2.1
def fJ(s:zE)(e:zN):Int:=if gO s e=0 then -1 else s.2.2.2.1
def L_take:Lay:={ slots:=[(0,.ptr 1 0),(1,.agg (.pair tI (.pair tI (.pair tI tV))))],boxes:=[(1,[.val tI,.val tI,.val tI,.val tI,.val tI,.val (.sl (.pair tI tV)),.val (.sl tIs),.val tI,.val (.sl (.pair tI (.pair tI (.pair tI .bool)))),.val tI])] }
theorem T_take(E0 E1 E2 E3 E4 E5 F D G H E:Int)(z:List (Int×V))(A:List (List Int))(B:Int)(C:List (Int×(Int×(Int×Bool))))(y:Int):jG (P:=P) [] (zH []) Tryz.f140 L_take true ((),(E0,(E1,(E2,(E3,(E4,E5))))),F,D,G,H,E,z,A,B,C,y,()) =
 Tree.cond (E2 != H) (.leaf { res:=.int .i64 10,boxes:=[[.int .i64 F,.int .i64 D,.int .i64 G,.int .i64 H,.int .i64 E,.sl (Ty.pair tI tV) z,.sl tIs A,.int .i64 B,.sl (Ty.pair tI (Ty.pair tI (Ty.pair tI Ty.bool))) C,.int .i64 y]] }) (.leaf { res:=.int .i64 0,boxes:=[[.int .i64 F,.int .i64 D,.int .i64 E2,.int .i64 (-1:Int),.int .i64 E,.sl (Ty.pair tI tV) z,.sl tIs A,.int .i64 B,.sl (Ty.pair tI (Ty.pair tI (Ty.pair tI Ty.bool))) C,.int .i64 y]] }):=by kernel_rfl
def c_take:MC P:=MC.of (α:=Unit×(Int×(Int×(Int×V)))×Int×Int×Int×Int×Int×List (Int×V)×List (List Int)×Int×List (Int×(Int×(Int×Bool)))×Int×Unit) 140 L_take (fun x=>x) (fun x=>x) (fun _=>rfl)
 (fun _=>none)
 (fun x=>⟨.int .i64 (gO (x.2.2.1,x.2.2.2.1,x.2.2.2.2.1,x.2.2.2.2.2.1,x.2.2.2.2.2.2.1,(x.2.2.2.2.2.2.2.1,x.2.2.2.2.2.2.2.2.1,x.2.2.2.2.2.2.2.2.2.1),x.2.2.2.2.2.2.2.2.2.2.1,x.2.2.2.2.2.2.2.2.2.2.2.1) x.2.1),[[.int .i64 x.2.2.1,.int .i64 x.2.2.2.1,.int .i64 (fK (x.2.2.1,x.2.2.2.1,x.2.2.2.2.1,x.2.2.2.2.2.1,x.2.2.2.2.2.2.1,(x.2.2.2.2.2.2.2.1,x.2.2.2.2.2.2.2.2.1,x.2.2.2.2.2.2.2.2.2.1),x.2.2.2.2.2.2.2.2.2.2.1,x.2.2.2.2.2.2.2.2.2.2.2.1) x.2.1),.int .i64 (fJ (x.2.2.1,x.2.2.2.1,x.2.2.2.2.1,x.2.2.2.2.2.1,x.2.2.2.2.2.2.1,(x.2.2.2.2.2.2.2.1,x.2.2.2.2.2.2.2.2.1,x.2.2.2.2.2.2.2.2.2.1),x.2.2.2.2.2.2.2.2.2.2.1,x.2.2.2.2.2.2.2.2.2.2.2.1) x.2.1),.int .i64 x.2.2.2.2.2.2.1,.sl tEl x.2.2.2.2.2.2.2.1,.sl tIs x.2.2.2.2.2.2.2.2.1,.int .i64 x.2.2.2.2.2.2.2.2.2.1,.sl tPm x.2.2.2.2.2.2.2.2.2.2.1,.int .i64 x.2.2.2.2.2.2.2.2.2.2.2.1]],[]⟩) (by kernel_rfl) (by kernel_rfl) (by kernel_rfl) (by
  rintro⟨⟨⟩,⟨E0,⟨E1,⟨E2,⟨E3,⟨E4,E5⟩⟩⟩⟩⟩,F,D,G,H,E,z,A,B,C,y,⟨⟩⟩ hp
  refine yG hm (own:=true) (by kernel_rfl) (by kernel_rfl) (by kernel_rfl) (T_take E0 E1 E2 E3 E4 E5 F D G H E z A B C y) trivial ?_
  try dsimp only at hp
  try dsimp only
  have fin:∀n m k:Int,gO (F,D,G,H,E,(z,A,B),C,y) (E0,E1,E2,E3,E4,E5)=n->fK (F,D,G,H,E,(z,A,B),C,y) (E0,E1,E2,E3,E4,E5)=m->fJ (F,D,G,H,E,(z,A,B),C,y) (E0,E1,E2,E3,E4,E5)=k->(⟨SV.int .i64 n,[[.int .i64 F,.int .i64 D,.int .i64 m,.int .i64 k,.int .i64 E,.sl tEl z,.sl tIs A,.int .i64 B,.sl tPm C,.int .i64 y]],[]⟩:MOut)=⟨.int .i64 (gO (F,D,G,H,E,(z,A,B),C,y) (E0,E1,E2,E3,E4,E5)),[[.int .i64 F,.int .i64 D,.int .i64 (fK (F,D,G,H,E,(z,A,B),C,y) (E0,E1,E2,E3,E4,E5)),.int .i64 (fJ (F,D,G,H,E,(z,A,B),C,y) (E0,E1,E2,E3,E4,E5)),.int .i64 E,.sl tEl z,.sl tIs A,.int .i64 B,.sl tPm C,.int .i64 y]],[]⟩:=fun n m k h1 h2 h3=>by rw[h1,h2,h3]
  unfold fK fJ gO at fin
  dsimp only at fin
  refine⟨fun c1=>fin _ _ _ ?_ ?_ ?_,fun c1=>fin _ _ _ ?_ ?_ ?_⟩
  all_goals simp[c1])
def L_deeds:Lay:={ slots:=[] }
theorem T_deeds(_:Unit):jG (P:=P) [] (zH []) Tryz.f99 L_deeds true () =
 Tree.leaf { res:=SV.mp 100,boxes:=[],news:=[Ob.mp ([((1:Int),134)]++[((2:Int),135)]++[((3:Int),136)]++[((4:Int),137)]++[((5:Int),138)]++[((6:Int),139)]++[((7:Int),140)]++[((8:Int),141)]++[((9:Int),142)]++[((10:Int),143)])] }:=by kernel_rfl
def c_deeds:MC P:=MC.of (α:=Unit) 99 L_deeds (fun x=>x) (fun x=>x) (fun _=>rfl)
 (fun _=>none)
 (fun _=>⟨.mp 100,[],[.mp [(1,134),(2,135),(3,136),(4,137),(5,138),(6,139),(7,140),(8,141),(9,142),(10,143)]]⟩) (by kernel_rfl) (by kernel_rfl) (by kernel_rfl) (by
  rintro⟨⟩ hp
  refine yG hm (own:=true) (by kernel_rfl) (by kernel_rfl) (by kernel_rfl) (T_deeds ()) trivial ?_
  exact rfl)
def qJ:zE:=(0,0,0,0,0,([],[],0),[],0)
def doS(s:zE)(e:zN):zE×Int :=
 if wi e.1 0 1099511627776=false then (qJ,2) else if e.1<s.1 then (qJ,11) else if vB s.2.1 e.2.2.1=false then (qJ,2)
 else if e.2.1=6 then (if pL s e≠0 then (qJ,pL s e) else ((e.1,s.2.1,s.2.2.1,gX s e,s.2.2.2.2.1,s.2.2.2.2.2.1,s.2.2.2.2.2.2.1,-1),0))
 else if gO s e≠0 then (qJ,gO s e) else ((e.1,s.2.1,fK s e,fJ s e,s.2.2.2.2.1,s.2.2.2.2.2.1,s.2.2.2.2.2.2.1,-1),0)
def calmO(s:zE)(e:zN):Prop:=(e.2.1=6\/e.2.1=7)/\sOk s/\zB s.2.2.2.2.2.1=0/\wK s=false
theorem doS_eq{s:zE}{e:zN}(h1:wi e.1 0 1099511627776=true) (h2:¬ e.1<s.1) (h3:vB s.2.1 e.2.2.1=true):doS s e=if e.2.1=6 then (if pL s e≠0 then (qJ,pL s e) else ((e.1,s.2.1,s.2.2.1,gX s e,s.2.2.2.2.1,s.2.2.2.2.2.1,s.2.2.2.2.2.2.1,-1),0)) else if gO s e≠0 then (qJ,gO s e) else ((e.1,s.2.1,fK s e,fJ s e,s.2.2.2.2.1,s.2.2.2.2.2.1,s.2.2.2.2.2.2.1,-1),0):=by
 unfold doS
 rw[if_neg (by rw[h1];decide),if_neg h2,if_neg (by rw[h3];decide)]
theorem T_do1(v p u w q:Int)(j:List (Int×V))(l:List (List Int))(o:Int)(f:List (Int×(Int×(Int×Bool))))(r E0 E1 E2 E3 E4 E5:Int):jD (P:=P) [wE.gc,kY.gc,c_deeds.gc,c_Copy.gc,c_offer.gc,c_take.gc,c_keeps.gc] (zH []) Tryz.f50 (z_ 0 [.agg (.pair tI (.pair tI (.pair tI (.pair tI (.pair tI (.pair (.pair (.sl (.pair tI tV)) (.pair (.sl tIs) tI)) (.pair (.sl (.pair tI (.pair tI (.pair tI .bool)))) tI))))))),.agg (.pair tI (.pair tI (.pair tI tV)))] ((v,(p,(u,(w,(q,((j,(l,o)),(f,r))))))),(E0,(E1,(E2,(E3,(E4,E5))))),())) =
 Tree.cond (!wi E0 0 1099511627776) (.leaf (.tup [.agg [.int .i64 0,.int .i64 0,.int .i64 0,.int .i64 0,.int .i64 0,.nils,.nils,.int .i64 0,.nils,.int .i64 0],.int .i64 2])) (.cond (decide (E0<v)) (.leaf (.tup [.agg [.int .i64 0,.int .i64 0,.int .i64 0,.int .i64 0,.int .i64 0,.nils,.nils,.int .i64 0,.nils,.int .i64 0],.int .i64 11])) (.cond (!vB p E2) (.leaf (.tup [.agg [.int .i64 0,.int .i64 0,.int .i64 0,.int .i64 0,.int .i64 0,.nils,.nils,.int .i64 0,.nils,.int .i64 0],.int .i64 2])) (.cond (decide (E1=1)) (.cond false (.leaf (.tup [.agg [.int .i64 0,.int .i64 0,.int .i64 0,.int .i64 0,.int .i64 0,.nils,.nils,.int .i64 0,.nils,.int .i64 0],.int .i64 4])) (.need (sOk (v,p,u,w,q,(j,l,o),f,r)) (Tree.fail 1046))) (.cond (decide (E1=2)) (.cond false (.leaf (.tup [.agg [.int .i64 0,.int .i64 0,.int .i64 0,.int .i64 0,.int .i64 0,.nils,.nils,.int .i64 0,.nils,.int .i64 0],.int .i64 4])) (.need (sOk (v,p,u,w,q,(j,l,o),f,r)) (Tree.fail 1046))) (.cond (decide (E1=3)) (.cond false (.leaf (.tup [.agg [.int .i64 0,.int .i64 0,.int .i64 0,.int .i64 0,.int .i64 0,.nils,.nils,.int .i64 0,.nils,.int .i64 0],.int .i64 4])) (.need (sOk (v,p,u,w,q,(j,l,o),f,r)) (Tree.fail 1046))) (.cond (decide (E1=4)) (.cond false (.leaf (.tup [.agg [.int .i64 0,.int .i64 0,.int .i64 0,.int .i64 0,.int .i64 0,.nils,.nils,.int .i64 0,.nils,.int .i64 0],.int .i64 4])) (.need (sOk (v,p,u,w,q,(j,l,o),f,r)) (Tree.fail 1046))) (.cond (decide (E1=5)) (.cond false (.leaf (.tup [.agg [.int .i64 0,.int .i64 0,.int .i64 0,.int .i64 0,.int .i64 0,.nils,.nils,.int .i64 0,.nils,.int .i64 0],.int .i64 4])) (.need (sOk (v,p,u,w,q,(j,l,o),f,r)) (Tree.fail 1046))) (.cond (decide (E1=6)) (.cond false (.leaf (.tup [.agg [.int .i64 0,.int .i64 0,.int .i64 0,.int .i64 0,.int .i64 0,.nils,.nils,.int .i64 0,.nils,.int .i64 0],.int .i64 4])) (.need (sOk (v,p,u,w,q,(j,l,o),f,r)) (.cond (pL (v,p,u,w,q,(j,l,o),f,r) (E0,E1,E2,E3,E4,E5) != 0) (.leaf (.tup [.agg [.int .i64 0,.int .i64 0,.int .i64 0,.int .i64 0,.int .i64 0,.nils,.nils,.int .i64 0,.nils,.int .i64 0],.int .i64 (pL (v,p,u,w,q,(j,l,o),f,r) (E0,E1,E2,E3,E4,E5))])) (.need (zB (j,l,o)=0/\f.length<=1000) (.cond (jM (E0,p,u,gX (v,p,u,w,q,(j,l,o),f,r) (E0,E1,E2,E3,E4,E5),q,(j,l,o),f,r) E0) (.leaf (.tup [.agg [.int .i64 E0,.int .i64 p,.int .i64 u,.int .i64 (gX (v,p,u,w,q,(j,l,o),f,r) (E0,E1,E2,E3,E4,E5)),.int .i64 q,.sl (Ty.pair tI (Ty.pair tI (Ty.pair tI tI))) j,.sl (Ty.sl tI) l,.int .i64 o,.sl (Ty.pair tI (Ty.pair tI (Ty.pair tI Ty.bool))) f,.int .i64 (-1:Int)],.int .i64 0])) (.cond (r==(-1:Int)) (Tree.fail 1075) (.leaf (.tup [.agg [.int .i64 E0,.int .i64 p,.int .i64 u,.int .i64 (gX (v,p,u,w,q,(j,l,o),f,r) (E0,E1,E2,E3,E4,E5)),.int .i64 q,.sl (Ty.pair tI (Ty.pair tI (Ty.pair tI tI))) j,.sl (Ty.sl tI) l,.int .i64 o,.sl (Ty.pair tI (Ty.pair tI (Ty.pair tI Ty.bool))) f,.int .i64 r],.int .i64 0])))))))) (.cond (decide (E1=7)) (.cond false (.leaf (.tup [.agg [.int .i64 0,.int .i64 0,.int .i64 0,.int .i64 0,.int .i64 0,.nils,.nils,.int .i64 0,.nils,.int .i64 0],.int .i64 4])) (.need (sOk (v,p,u,w,q,(j,l,o),f,r)) (.cond (gO (v,p,u,w,q,(j,l,o),f,r) (E0,E1,E2,E3,E4,E5) != 0) (.leaf (.tup [.agg [.int .i64 0,.int .i64 0,.int .i64 0,.int .i64 0,.int .i64 0,.nils,.nils,.int .i64 0,.nils,.int .i64 0],.int .i64 (gO (v,p,u,w,q,(j,l,o),f,r) (E0,E1,E2,E3,E4,E5))])) (.need (zB (j,l,o)=0/\f.length<=1000) (.cond (jM (E0,p,fK (v,p,u,w,q,(j,l,o),f,r) (E0,E1,E2,E3,E4,E5),fJ (v,p,u,w,q,(j,l,o),f,r) (E0,E1,E2,E3,E4,E5),q,(j,l,o),f,r) E0) (.leaf (.tup [.agg [.int .i64 E0,.int .i64 p,.int .i64 (fK (v,p,u,w,q,(j,l,o),f,r) (E0,E1,E2,E3,E4,E5)),.int .i64 (fJ (v,p,u,w,q,(j,l,o),f,r) (E0,E1,E2,E3,E4,E5)),.int .i64 q,.sl (Ty.pair tI (Ty.pair tI (Ty.pair tI tI))) j,.sl (Ty.sl tI) l,.int .i64 o,.sl (Ty.pair tI (Ty.pair tI (Ty.pair tI Ty.bool))) f,.int .i64 (-1:Int)],.int .i64 0])) (.cond (r==(-1:Int)) (Tree.fail 1075) (.leaf (.tup [.agg [.int .i64 E0,.int .i64 p,.int .i64 (fK (v,p,u,w,q,(j,l,o),f,r) (E0,E1,E2,E3,E4,E5)),.int .i64 (fJ (v,p,u,w,q,(j,l,o),f,r) (E0,E1,E2,E3,E4,E5)),.int .i64 q,.sl (Ty.pair tI (Ty.pair tI (Ty.pair tI tI))) j,.sl (Ty.sl tI) l,.int .i64 o,.sl (Ty.pair tI (Ty.pair tI (Ty.pair tI Ty.bool))) f,.int .i64 r],.int .i64 0])))))))) (.cond (decide (E1=8)) (.cond false (.leaf (.tup [.agg [.int .i64 0,.int .i64 0,.int .i64 0,.int .i64 0,.int .i64 0,.nils,.nils,.int .i64 0,.nils,.int .i64 0],.int .i64 4])) (.need (sOk (v,p,u,w,q,(j,l,o),f,r)) (Tree.fail 1046))) (.cond (decide (E1=9)) (.cond false (.leaf (.tup [.agg [.int .i64 0,.int .i64 0,.int .i64 0,.int .i64 0,.int .i64 0,.nils,.nils,.int .i64 0,.nils,.int .i64 0],.int .i64 4])) (.need (sOk (v,p,u,w,q,(j,l,o),f,r)) (Tree.fail 1046))) (.cond (decide (E1=10)) (.cond false (.leaf (.tup [.agg [.int .i64 0,.int .i64 0,.int .i64 0,.int .i64 0,.int .i64 0,.nils,.nils,.int .i64 0,.nils,.int .i64 0],.int .i64 4])) (.need (sOk (v,p,u,w,q,(j,l,o),f,r)) (Tree.fail 1046))) (.need (findI [((1:Int),(134:FuncId)),((2:Int),(135:FuncId)),((3:Int),(136:FuncId)),((4:Int),(137:FuncId)),((5:Int),(138:FuncId)),((6:Int),(139:FuncId)),((7:Int),(140:FuncId)),((8:Int),(141:FuncId)),((9:Int),(142:FuncId)),((10:Int),(143:FuncId))] E1=none) (.cond true (.leaf (.tup [.agg [.int .i64 0,.int .i64 0,.int .i64 0,.int .i64 0,.int .i64 0,.nils,.nils,.int .i64 0,.nils,.int .i64 0],.int .i64 4])) (.need (sOk (v,p,u,w,q,(j,l,o),f,r)) (Tree.fail 1046)))))))))))))))):=by kernel_rfl
def c_do1:PC P:=PC.of (α:=(Int×(Int×(Int×(Int×(Int×((List (Int×V)×(List (List Int)×Int))×(List (Int×(Int×(Int×Bool)))×Int)))))))×(Int×(Int×(Int×V)))×Unit) 50 [.agg (.pair tI (.pair tI (.pair tI (.pair tI (.pair tI (.pair (.pair (.sl (.pair tI tV)) (.pair (.sl tIs) tI)) (.pair (.sl (.pair tI (.pair tI (.pair tI .bool)))) tI))))))),.agg (.pair tI (.pair tI (.pair tI tV)))] (fun x=>x) (fun x=>x) (fun _=>rfl)
 (fun x=>some (calmO x.1 x.2.1))
 (fun x=>.tup [.agg [.int .i64 (doS x.1 x.2.1).1.1,.int .i64 (doS x.1 x.2.1).1.2.1,.int .i64 (doS x.1 x.2.1).1.2.2.1,.int .i64 (doS x.1 x.2.1).1.2.2.2.1,.int .i64 (doS x.1 x.2.1).1.2.2.2.2.1,.sl tEl (doS x.1 x.2.1).1.2.2.2.2.2.1.1,.sl tIs (doS x.1 x.2.1).1.2.2.2.2.2.1.2.1,.int .i64 (doS x.1 x.2.1).1.2.2.2.2.2.1.2.2,.sl tPm (doS x.1 x.2.1).1.2.2.2.2.2.2.1,.int .i64 (doS x.1 x.2.1).1.2.2.2.2.2.2.2],.int .i64 (doS x.1 x.2.1).2]) (by kernel_rfl) (by
  rintro⟨⟨v,⟨p,⟨u,⟨w,⟨q,⟨⟨j,⟨l,o⟩⟩,⟨f,r⟩⟩⟩⟩⟩⟩⟩,⟨E0,⟨E1,⟨E2,⟨E3,⟨E4,E5⟩⟩⟩⟩⟩,⟨⟩⟩ hp
  refine fn_le hm (by kernel_rfl) (by kernel_rfl) (T_do1 v p u w q j l o f r E0 E1 E2 E3 E4 E5) trivial (by kernel_rfl) ?_
  try dsimp only at hp
  try dsimp only
  obtain⟨hk,hs,hh,ho⟩:calmO (v,p,u,w,q,(j,l,o),f,r) (E0,E1,E2,E3,E4,E5):=hp
  have hk:E1=6\/E1=7:=hk
  have hl:f.length<=1000:=hs.2
  have kp:∀a c d t,jM (a,p,c,d,q,(j,l,o),f,r) t=true:=fun a c d t=>by
   unfold jM
   rw[show wK (a,p,c,d,q,(j,l,o),f,r)=false from ho];rfl
  have bad:∀n,doS (v,p,u,w,q,(j,l,o),f,r) (E0,E1,E2,E3,E4,E5)=(qJ,n)->LeS (SV.tup [.agg [.int .i64 0,.int .i64 0,.int .i64 0,.int .i64 0,.int .i64 0,.nils,.nils,.int .i64 0,.nils,.int .i64 0],.int .i64 n]) (SV.tup [.agg [.int .i64 (doS (v,p,u,w,q,(j,l,o),f,r) (E0,E1,E2,E3,E4,E5)).1.1,.int .i64 (doS (v,p,u,w,q,(j,l,o),f,r) (E0,E1,E2,E3,E4,E5)).1.2.1,.int .i64 (doS (v,p,u,w,q,(j,l,o),f,r) (E0,E1,E2,E3,E4,E5)).1.2.2.1,.int .i64 (doS (v,p,u,w,q,(j,l,o),f,r) (E0,E1,E2,E3,E4,E5)).1.2.2.2.1,.int .i64 (doS (v,p,u,w,q,(j,l,o),f,r) (E0,E1,E2,E3,E4,E5)).1.2.2.2.2.1,.sl tEl (doS (v,p,u,w,q,(j,l,o),f,r) (E0,E1,E2,E3,E4,E5)).1.2.2.2.2.2.1.1,.sl tIs (doS (v,p,u,w,q,(j,l,o),f,r) (E0,E1,E2,E3,E4,E5)).1.2.2.2.2.2.1.2.1,.int .i64 (doS (v,p,u,w,q,(j,l,o),f,r) (E0,E1,E2,E3,E4,E5)).1.2.2.2.2.2.1.2.2,.sl tPm (doS (v,p,u,w,q,(j,l,o),f,r) (E0,E1,E2,E3,E4,E5)).1.2.2.2.2.2.2.1,.int .i64 (doS (v,p,u,w,q,(j,l,o),f,r) (E0,E1,E2,E3,E4,E5)).1.2.2.2.2.2.2.2],.int .i64 (doS (v,p,u,w,q,(j,l,o),f,r) (E0,E1,E2,E3,E4,E5)).2]):=fun n h=>by
   rw[h]
   exact⟨⟨rfl,rfl,rfl,rfl,rfl,rfl,rfl,rfl,rfl,rfl,trivial⟩,rfl,trivial⟩
  have good:∀a b c d g:Int,∀y:Int,doS (v,p,u,w,q,(j,l,o),f,r) (E0,E1,E2,E3,E4,E5)=((a,b,c,d,g,(j,l,o),f,y),0)->LeS (SV.tup [.agg [.int .i64 a,.int .i64 b,.int .i64 c,.int .i64 d,.int .i64 g,.sl tEl j,.sl tIs l,.int .i64 o,.sl tPm f,.int .i64 y],.int .i64 0]) (SV.tup [.agg [.int .i64 (doS (v,p,u,w,q,(j,l,o),f,r) (E0,E1,E2,E3,E4,E5)).1.1,.int .i64 (doS (v,p,u,w,q,(j,l,o),f,r) (E0,E1,E2,E3,E4,E5)).1.2.1,.int .i64 (doS (v,p,u,w,q,(j,l,o),f,r) (E0,E1,E2,E3,E4,E5)).1.2.2.1,.int .i64 (doS (v,p,u,w,q,(j,l,o),f,r) (E0,E1,E2,E3,E4,E5)).1.2.2.2.1,.int .i64 (doS (v,p,u,w,q,(j,l,o),f,r) (E0,E1,E2,E3,E4,E5)).1.2.2.2.2.1,.sl tEl (doS (v,p,u,w,q,(j,l,o),f,r) (E0,E1,E2,E3,E4,E5)).1.2.2.2.2.2.1.1,.sl tIs (doS (v,p,u,w,q,(j,l,o),f,r) (E0,E1,E2,E3,E4,E5)).1.2.2.2.2.2.1.2.1,.int .i64 (doS (v,p,u,w,q,(j,l,o),f,r) (E0,E1,E2,E3,E4,E5)).1.2.2.2.2.2.1.2.2,.sl tPm (doS (v,p,u,w,q,(j,l,o),f,r) (E0,E1,E2,E3,E4,E5)).1.2.2.2.2.2.2.1,.int .i64 (doS (v,p,u,w,q,(j,l,o),f,r) (E0,E1,E2,E3,E4,E5)).1.2.2.2.2.2.2.2],.int .i64 (doS (v,p,u,w,q,(j,l,o),f,r) (E0,E1,E2,E3,E4,E5)).2]):=fun a b c d g y h=>by
   rw[h]
   exact⟨⟨rfl,rfl,rfl,rfl,rfl,rfl,rfl,rfl,rfl,rfl,trivial⟩,rfl,trivial⟩
  refine⟨fun c1=>bad _ ?_,fun c1=>⟨fun c2=>bad _ ?_,fun c2=>⟨fun c3=>bad _ ?_,fun c3=>?_⟩⟩⟩
  ·unfold doS;rw[if_pos (by simpa using c1)]
  ·unfold doS;rw[if_neg (by simpa using c1),if_pos (dcT c2)]
  ·unfold doS;rw[if_neg (by simpa using c1),if_neg (dcF c2),if_pos (by simpa using c3)]
  have dS:=doS_eq (s:=(v,p,u,w,q,(j,l,o),f,r)) (e:=(E0,E1,E2,E3,E4,E5)) (by simpa using c1) (dcF c2) (by simpa using c3)
  refine⟨fun k1=>absurd (dcT k1) (by omega),fun _=>⟨fun k2=>absurd (dcT k2) (by omega),fun _=>⟨fun k3=>absurd (dcT k3) (by omega),fun _=>⟨fun k4=>absurd (dcT k4) (by omega),fun _=>⟨fun k5=>absurd (dcT k5) (by omega),fun _=>⟨fun k6=>⟨fun h=>(by cases h),fun _=>⟨hs,fun d1=>bad _ ?_,fun d1=>⟨⟨hh,hl⟩,fun d2=>good _ _ _ _ _ _ ?_,fun d2=>absurd (kp _ _ _ _) (by rw[d2];decide)⟩⟩⟩,fun k6=>⟨fun k7=>⟨fun h=>(by cases h),fun _=>⟨hs,fun d1=>bad _ ?_,fun d1=>⟨⟨hh,hl⟩,fun d2=>good _ _ _ _ _ _ ?_,fun d2=>absurd (kp _ _ _ _) (by rw[d2];decide)⟩⟩⟩,fun k7=>(hk.elim (dcF k6) (dcF k7)).elim⟩⟩⟩⟩⟩⟩⟩
  ·rw[dS,if_pos (dcT k6),if_pos (by simpa using d1)]
  ·rw[dS,if_pos (dcT k6),if_neg (by simpa using d1)]
  ·rw[dS,if_neg (dcF k6),if_pos (by simpa using d1)]
  ·rw[dS,if_neg (dcF k6),if_neg (by simpa using d1)])
theorem fC{s:zE}(h:vY s=0):zB s.2.2.2.2.2.1=0:=by
 unfold vY at h
 split at h
 ·cases h
 split at h
 ·rename_i h2;exact absurd h h2
 ·rename_i h2;exact Decidable.not_not.1 h2
theorem T_Do1(v p u w q:Int)(j:List (Int×V))(l:List (List Int))(o:Int)(f:List (Int×(Int×(Int×Bool))))(r E0 E1 E2 E3 E4 E5:Int):jD (P:=P) [c_Check.gc,c_do1.gc] (zH []) Tryz.f16 (z_ 0 [.agg (.pair tI (.pair tI (.pair tI (.pair tI (.pair tI (.pair (.pair (.sl (.pair tI tV)) (.pair (.sl tIs) tI)) (.pair (.sl (.pair tI (.pair tI (.pair tI .bool)))) tI))))))),.agg (.pair tI (.pair tI (.pair tI tV)))] ((v,(p,(u,(w,(q,((j,(l,o)),(f,r))))))),(E0,(E1,(E2,(E3,(E4,E5))))),())) =
 Tree.need (sOk (v,p,u,w,q,(j,l,o),f,r)) (.cond (vY (v,p,u,w,q,(j,l,o),f,r) != 0) (.leaf (.tup [.agg [.int .i64 0,.int .i64 0,.int .i64 0,.int .i64 0,.int .i64 0,.nils,.nils,.int .i64 0,.nils,.int .i64 0],.int .i64 (vY (v,p,u,w,q,(j,l,o),f,r))])) (.need (calmO (v,p,u,w,q,(j,l,o),f,r) (E0,E1,E2,E3,E4,E5)) (.leaf (.tup [.agg [.int .i64 (doS (v,p,u,w,q,(j,l,o),f,r) (E0,E1,E2,E3,E4,E5)).1.1,.int .i64 (doS (v,p,u,w,q,(j,l,o),f,r) (E0,E1,E2,E3,E4,E5)).1.2.1,.int .i64 (doS (v,p,u,w,q,(j,l,o),f,r) (E0,E1,E2,E3,E4,E5)).1.2.2.1,.int .i64 (doS (v,p,u,w,q,(j,l,o),f,r) (E0,E1,E2,E3,E4,E5)).1.2.2.2.1,.int .i64 (doS (v,p,u,w,q,(j,l,o),f,r) (E0,E1,E2,E3,E4,E5)).1.2.2.2.2.1,.sl (Ty.pair tI (Ty.pair tI (Ty.pair tI tI))) (doS (v,p,u,w,q,(j,l,o),f,r) (E0,E1,E2,E3,E4,E5)).1.2.2.2.2.2.1.1,.sl (Ty.sl tI) (doS (v,p,u,w,q,(j,l,o),f,r) (E0,E1,E2,E3,E4,E5)).1.2.2.2.2.2.1.2.1,.int .i64 (doS (v,p,u,w,q,(j,l,o),f,r) (E0,E1,E2,E3,E4,E5)).1.2.2.2.2.2.1.2.2,.sl (Ty.pair tI (Ty.pair tI (Ty.pair tI Ty.bool))) (doS (v,p,u,w,q,(j,l,o),f,r) (E0,E1,E2,E3,E4,E5)).1.2.2.2.2.2.2.1,.int .i64 (doS (v,p,u,w,q,(j,l,o),f,r) (E0,E1,E2,E3,E4,E5)).1.2.2.2.2.2.2.2],.int .i64 (doS (v,p,u,w,q,(j,l,o),f,r) (E0,E1,E2,E3,E4,E5)).2])))):=by kernel_rfl
def c_Do1:PC P:=PC.of (α:=(Int×(Int×(Int×(Int×(Int×((List (Int×V)×(List (List Int)×Int))×(List (Int×(Int×(Int×Bool)))×Int)))))))×(Int×(Int×(Int×V)))×Unit) 16 [.agg (.pair tI (.pair tI (.pair tI (.pair tI (.pair tI (.pair (.pair (.sl (.pair tI tV)) (.pair (.sl tIs) tI)) (.pair (.sl (.pair tI (.pair tI (.pair tI .bool)))) tI))))))),.agg (.pair tI (.pair tI (.pair tI tV)))] (fun x=>x) (fun x=>x) (fun _=>rfl)
 (fun x=>some ((x.2.1.2.1=6\/x.2.1.2.1=7)/\vY x.1=0/\sOk x.1/\wK x.1=false))
 (fun x=>.tup [.agg [.int .i64 (doS x.1 x.2.1).1.1,.int .i64 (doS x.1 x.2.1).1.2.1,.int .i64 (doS x.1 x.2.1).1.2.2.1,.int .i64 (doS x.1 x.2.1).1.2.2.2.1,.int .i64 (doS x.1 x.2.1).1.2.2.2.2.1,.sl tEl (doS x.1 x.2.1).1.2.2.2.2.2.1.1,.sl tIs (doS x.1 x.2.1).1.2.2.2.2.2.1.2.1,.int .i64 (doS x.1 x.2.1).1.2.2.2.2.2.1.2.2,.sl tPm (doS x.1 x.2.1).1.2.2.2.2.2.2.1,.int .i64 (doS x.1 x.2.1).1.2.2.2.2.2.2.2],.int .i64 (doS x.1 x.2.1).2]) (by kernel_rfl) (by
  rintro⟨⟨v,⟨p,⟨u,⟨w,⟨q,⟨⟨j,⟨l,o⟩⟩,⟨f,r⟩⟩⟩⟩⟩⟩⟩,⟨E0,⟨E1,⟨E2,⟨E3,⟨E4,E5⟩⟩⟩⟩⟩,⟨⟩⟩ hp
  refine fn_le hm (by kernel_rfl) (by kernel_rfl) (T_Do1 v p u w q j l o f r E0 E1 E2 E3 E4 E5) trivial (by kernel_rfl) ?_
  try dsimp only at hp
  try dsimp only
  obtain⟨hk,hc,hs,ho⟩:(E1=6\/E1=7)/\vY (v,p,u,w,q,(j,l,o),f,r)=0/\sOk (v,p,u,w,q,(j,l,o),f,r)/\wK (v,p,u,w,q,(j,l,o),f,r)=false:=hp
  exact⟨hs,fun d=>absurd hc (by simpa using d),fun d=>⟨⟨hk,hs,fC hc,ho⟩,⟨⟨rfl,rfl,rfl,rfl,rfl,rfl,rfl,rfl,rfl,rfl,trivial⟩,rfl,trivial⟩⟩⟩)
def vK:Hs:=([(2,1000,0,100),(2,2000,0,100),(2,1500,0,50),(1,0,0,0)],[[0,1],[1,2],[2],[3]],2)
theorem T_shown(_:Unit):jD (P:=P) [] (zH []) Tryz.f44 (z_ 0 [] ()) =
 Tree.leaf (.agg [.sl (Ty.pair (Ty.int IntKind.i64) (Ty.pair (Ty.int IntKind.i64) (Ty.pair (Ty.int IntKind.i64) (Ty.int IntKind.i64)))) [((2:Int),(1000:Int),(0:Int),(100:Int)),((2:Int),(2000:Int),(0:Int),(100:Int)),((2:Int),(1500:Int),(0:Int),(50:Int)),((1:Int),(0:Int),(0:Int),(0:Int))],.sl (Ty.sl (Ty.int IntKind.i64)) [[(0:Int),(1:Int)],[(1:Int),(2:Int)],[(2:Int)],[(3:Int)]],.int .i64 2]):=by kernel_rfl
def c_shown:PC P:=PC.of (α:=Unit) 44 [] (fun x=>x) (fun x=>x) (fun _=>rfl)
 (fun _=>none)
 (fun x=>.agg [.sl tEl vK.1,.sl tIs vK.2.1,.int .i64 2]) (by kernel_rfl) (by
  rintro⟨⟩ hp
  refine fn_le hm (by kernel_rfl) (by kernel_rfl) (T_shown ()) trivial (by kernel_rfl) ?_
  try dsimp only at hp
  try dsimp only
  exact⟨rfl,rfl,rfl,trivial⟩)
theorem T_place(_:Unit):jD (P:=P) [c_shown.gc] (zH []) Tryz.f47 (z_ 0 [] ()) =
 Tree.leaf (.agg [.int .i64 0,.int .i64 3,.int .i64 0,.int .i64 (-1:Int),.int .i64 1000,.sl (Ty.pair tI (Ty.pair tI (Ty.pair tI tI))) vK.1,.sl (Ty.sl tI) vK.2.1,.int .i64 2,.nils,.int .i64 (-1:Int)]):=by kernel_rfl
def c_place:PC P:=PC.of (α:=Unit) 47 [] (fun x=>x) (fun x=>x) (fun _=>rfl)
 (fun _=>none)
 (fun x=>.agg [.int .i64 0,.int .i64 3,.int .i64 0,.int .i64 (-1),.int .i64 1000,.sl tEl vK.1,.sl tIs vK.2.1,.int .i64 2,.sl tPm [],.int .i64 (-1)]) (by kernel_rfl) (by
  rintro⟨⟩ hp
  refine fn_le hm (by kernel_rfl) (by kernel_rfl) (T_place ()) trivial (by kernel_rfl) ?_
  try dsimp only at hp
  try dsimp only
  exact⟨rfl,rfl,rfl,rfl,rfl,rfl,rfl,rfl,rfl,rfl,trivial⟩)
def L_SameIntL:Lay:={ slots:=[(0,.val tIs),(1,.val tIs),(5,.val tI)] }
def L_SameIntL_0:Lay:={ slots:=[(4,.val .bool)] }
def kE:Lay:={ slots:=[(0,.val tIs),(1,.val tIs)] }
def X_SameIntL:Exit->St->Option Lay
 |.ret,_=>some L_SameIntL_0
 |.exit 0,_=>some kE
 |_,_=>none
abbrev C_SameIntL:Code:=jH (zJ Tryz.f45) 0
abbrev AuH1:Type:=List Int×List Int×Int×Unit
theorem B_SameIntL(a b:List Int)(i:Int):zF (P:=P) [] (zH []) [] 32 noU (jI C_SameIntL) L_SameIntL X_SameIntL (α:=AuH1) (fun x=>x) (fun x=>x) (a,b,i,()) =
 Tree.cond (decide (i<(a.length:Int))) (.cond (decide (i<(b.length:Int))) (.need (0<=i/\i<(a.length:Int)) (.need (0<=i/\i<(b.length:Int)) (.cond (a.getD i.toNat 0 != b.getD i.toNat 0) (.leaf (Sum.inr (Exit.ret,Lay.st L_SameIntL_0 noU (false,())))) (.leaf (Sum.inl (a,b,IntKind.i64.wrap (i+1),())))))) (.leaf (Sum.inr (Exit.exit 0,Lay.st kE noU (a,b,()))))) (.leaf (Sum.inr (Exit.exit 0,Lay.st kE noU (a,b,())))):=by kernel_rfl
def inv_SameIntL:AuH1->Prop:=fun(a,b,i,_)=>0<=i/\i<=a.length/\a=b/\(a.length:Int)<2 ^ 62
def O_SameIntL:AuH1->Tree (Exit×St):=fun(a,b,_)=>(.leaf (.exit 0,kE.st noU (a,b,())))
def R_SameIntL:jS:=j_ 32 L_SameIntL (fun x=>x) inv_SameIntL O_SameIntL
theorem K_SameIntL:zU P [] 32 none noU C_SameIntL R_SameIntL:=by
 refine zT hm (cx:=[]) [] (xl:=X_SameIntL) (α:=AuH1) (fun x=>x) (fun(a,_,i,_)=>(a.length - i).toNat) (fun _=>rfl) (by kernel_rfl) (by kernel_rfl) ?_ (by kernel_rfl) trivial ?_
 ·intro e S L' h
  unfold X_SameIntL at h
  split at h<;>cases h<;>kernel_rfl
 ·rintro⟨a,b,i,⟨⟩⟩ hinv Q hQ
  refine zD (B_SameIntL a b i) ?_
  obtain⟨h0,h1,rfl,h2⟩:=hinv
  rw[jZ (n:=i+1) (by omega) (by omega)]
  refine⟨fun c1=>⟨fun c1=>?_,fun c1=>hQ⟩,fun c1=>hQ⟩
  have c1:=dcT c1
  exact⟨⟨h0,c1⟩,⟨h0,c1⟩,fun c2=>absurd c2 (by simp),fun c2=>⟨⟨⟨by omega,by omega,rfl,h2⟩,by show ((a.length:Int) - (i+1)).toNat<((a.length:Int) - i).toNat;omega⟩,hQ⟩⟩
theorem T_SameInts(a b:List Int):jD (P:=P) [] (zH [(0,R_SameIntL)]) Tryz.f45 (z_ 0 [.val tIs,.val tIs] (a,b,())) =
 Tree.need (inv_SameIntL (a,b,0,())) (.leaf (.bool ((a.length:Int)==(b.length:Int)))):=by kernel_rfl
def c_SameInts:PC P:=PC.of (α:=List Int×List Int×Unit) 45 [.val tIs,.val tIs] (fun x=>x) (fun x=>x) (fun _=>rfl)
 (fun x=>some (x.1=x.2.1/\(x.1.length:Int)<2 ^ 62))
 (fun x=>.bool true) (by kernel_rfl) (by
  rintro⟨a,b,⟨⟩⟩ hp
  refine yK hm (by kernel_rfl) (by kernel_rfl) (T_SameInts a b) ⟨K_SameIntL,trivial⟩ ?_
  try dsimp only at hp
  try dsimp only
  obtain⟨rfl,h1⟩:a=b/\(a.length:Int)<2 ^ 62:=hp
  refine⟨⟨by decide,by omega,rfl,h1⟩,?_⟩
  show SV.bool _=SV.bool true
  simp)
theorem T_awake(_:Unit):jD (P:=P) [c_shown.gc,c_place.gc,c_Proof.gc,c_Do1.gc,c_SameInts.gc] (zH []) Tryz.f11 (z_ 0 [] ()) =
 Tree.need (hOk (vK.1,vK.2.1,(2:Int))) (.need (((7:Int)=6\/(7:Int)=7)/\vY ((0:Int),(3:Int),(0:Int),(-1:Int),(1000:Int),(vK.1,vK.2.1,(2:Int)),[],(-1:Int))=0/\sOk ((0:Int),(3:Int),(0:Int),(-1:Int),(1000:Int),(vK.1,vK.2.1,(2:Int)),[],(-1:Int))/\wK ((0:Int),(3:Int),(0:Int),(-1:Int),(1000:Int),(vK.1,vK.2.1,(2:Int)),[],(-1:Int))=false) (.need (((6:Int)=6\/(6:Int)=7)/\vY ((0:Int),(3:Int),(0:Int),(-1:Int),(1000:Int),(vK.1,vK.2.1,(2:Int)),[],(-1:Int))=0/\sOk ((0:Int),(3:Int),(0:Int),(-1:Int),(1000:Int),(vK.1,vK.2.1,(2:Int)),[],(-1:Int))/\wK ((0:Int),(3:Int),(0:Int),(-1:Int),(1000:Int),(vK.1,vK.2.1,(2:Int)),[],(-1:Int))=false) (.cond true (.need ((prS (vK.1,vK.2.1,(2:Int)) 10 1000).1=[(0:Int),(2:Int)]/\(↑(List.length (prS (vK.1,vK.2.1,(2:Int)) 10 1000).1):Int)<2 ^ 62) (.cond true (.cond true (.cond true (.leaf (.bool true)) (.leaf (.bool false))) (.leaf (.bool false))) (.leaf (.bool false)))) (.leaf (.bool false))))):=by kernel_rfl
def c_awake:PC P:=PC.of (α:=Unit) 11 [] (fun x=>x) (fun x=>x) (fun _=>rfl)
 (fun _=>none)
 (fun x=>.bool true) (by kernel_rfl) (by
  rintro⟨⟩ hp
  refine yK hm (by kernel_rfl) (by kernel_rfl) (T_awake ()) trivial ?_
  try dsimp only at hp
  try dsimp only
  have h1:hOk (vK.1,vK.2.1,2):=⟨by decide,by decide,by decide⟩
  have h2:vY (0,3,0,-1,1000,(vK.1,vK.2.1,2),[],-1)=0:=by decide +kernel
  have h3:sOk (0,3,0,-1,1000,(vK.1,vK.2.1,2),[],-1):=⟨h1,by decide⟩
  have h4:(prS (vK.1,vK.2.1,2) 10 1000).1=[0,2]:=by decide +kernel
  refine⟨h1,⟨.inr rfl,h2,h3,rfl⟩,⟨.inl rfl,h2,h3,rfl⟩,fun _=>⟨⟨h4,by rw[h4];decide⟩,fun _=>⟨fun _=>⟨fun _=>rfl,fun h=>(by cases h)⟩,fun h=>(by cases h)⟩,fun h=>(by cases h)⟩,fun h=>(by cases h)⟩)
end
end Go.MB
