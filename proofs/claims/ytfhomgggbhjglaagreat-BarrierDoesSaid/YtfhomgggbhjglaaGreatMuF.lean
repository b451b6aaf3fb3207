/- Copies of lists and of sites. -/
import Derived.Test.YtfhomgggbhjglaaGreatMuE
namespace Go.MB
open Go Go.Sx Go.Proofs
set_option linter.unusedVariables false
set_option linter.unusedSimpArgs false
noncomputable section
theorem qY.byNil{P:Program}{f:FuncId}{t:Ty}{l:List t.den}{o:SV}(h:∀b,(b=true->l=[])->qY P f [.nsl t l b] o):qY P f [.sl t l] o:=by
 intro I w zM hI hr
 have hr':=hr
 unfold zA at hr'
 obtain⟨v,r,rfl,hv,hr2⟩:=hr'
 classical
 refine h (decide (∃n c,v = .slice none n c)) (fun hb=>?_) I w _ hI ?_
 ·obtain⟨n,c,hn⟩:=dcT hb
  unfold Rep at hv
  obtain⟨u,hu,p,cap,e,_,hl⟩:=hv
  cases hu
  rcases hl with hl |⟨b,o,hp,_⟩
  ·exact hl
  ·rw[hn] at e
   cases e
   cases hp
 ·show zA _ _ w [SV.nsl t l _] (v::r)
  refine zA.cons ?_ hr2
  unfold Rep at hv ⊢
  exact⟨hv,decide_eq_true_iff⟩
theorem T_cloneIN(l:List Int)(b:Bool):frTree (P:=P) [] (zH []) Tryz.f112 (z_ 0 [.oval tI] ((l,b),())) =
 Tree.cond b (.leaf .nils) (.need ((0+l.length)*8<=140737488355328) (.leaf (.sl (Ty.int IntKind.i64) l))):=by kernel_rfl
def c_cloneIN:FC P:=FC.of (α:=(List Int×Bool)×Unit) 112 [.oval tI] (fun x=>x) (fun x=>x) (fun _=>rfl)
 (fun x=>some ((x.1.2=true->x.1.1=[])/\x.1.1.length<=1000))
 (fun x=>.sl tI x.1.1) (by kernel_rfl) (by
  rintro⟨⟨l,b⟩,⟨⟩⟩ hp
  refine fr_le hm (by kernel_rfl) (by kernel_rfl) (T_cloneIN l b) trivial (by kernel_rfl) ?_
  obtain⟨h1,h2⟩:(b=true->l=[])/\l.length<=1000:=hp
  refine⟨fun h=>?_,fun _=>⟨by omega,rfl⟩⟩
  rw[h1 h];exact rfl)
theorem T_clonePN(l:List Pm)(b:Bool):frTree (P:=P) [] (zH []) Tryz.f109 (z_ 0 [.oval tPm] ((l,b),())) =
 Tree.cond b (.leaf .nils) (.need ((0+l.length)*32<=140737488355328) (.leaf (.sl (Ty.pair (Ty.int IntKind.i64) (Ty.pair (Ty.int IntKind.i64) (Ty.pair (Ty.int IntKind.i64) Ty.bool))) l))):=by kernel_rfl
def c_clonePN:FC P:=FC.of (α:=(List Pm×Bool)×Unit) 109 [.oval tPm] (fun x=>x) (fun x=>x) (fun _=>rfl)
 (fun x=>some ((x.1.2=true->x.1.1=[])/\x.1.1.length<=1000))
 (fun x=>.sl tPm x.1.1) (by kernel_rfl) (by
  rintro⟨⟨l,b⟩,⟨⟩⟩ hp
  refine fr_le hm (by kernel_rfl) (by kernel_rfl) (T_clonePN l b) trivial (by kernel_rfl) ?_
  obtain⟨h1,h2⟩:(b=true->l=[])/\l.length<=1000:=hp
  refine⟨fun h=>?_,fun _=>⟨by omega,rfl⟩⟩
  rw[h1 h];exact rfl)
theorem T_cloneEN(l:List E4)(b:Bool):frTree (P:=P) [] (zH []) Tryz.f110 (z_ 0 [.oval tEl] ((l,b),())) =
 Tree.cond b (.leaf .nils) (.need ((0+l.length)*32<=140737488355328) (.leaf (.sl (Ty.pair (Ty.int IntKind.i64) (Ty.pair (Ty.int IntKind.i64) (Ty.pair (Ty.int IntKind.i64) (Ty.int IntKind.i64)))) l))):=by kernel_rfl
def c_cloneEN:FC P:=FC.of (α:=(List E4×Bool)×Unit) 110 [.oval tEl] (fun x=>x) (fun x=>x) (fun _=>rfl)
 (fun x=>some ((x.1.2=true->x.1.1=[])/\x.1.1.length<=1000))
 (fun x=>.sl tEl x.1.1) (by kernel_rfl) (by
  rintro⟨⟨l,b⟩,⟨⟩⟩ hp
  refine fr_le hm (by kernel_rfl) (by kernel_rfl) (T_cloneEN l b) trivial (by kernel_rfl) ?_
  obtain⟨h1,h2⟩:(b=true->l=[])/\l.length<=1000:=hp
  refine⟨fun h=>?_,fun _=>⟨by omega,rfl⟩⟩
  rw[h1 h];exact rfl)
theorem nilS_own:xN .nils (.own 100):=by simp[xN,zC]
def L_cloneVN:Lay:={ slots:=[(0,.oval tIs)] }
theorem T_cloneVN(l:List (List Int))(b:Bool):jG (P:=P) [] (zH []) Tryz.f111 L_cloneVN true ((l,b),()) =
 Tree.cond b (.leaf { res:=.nils,boxes:=[] }) (.need ((0+l.length)*24<=140737488355328) (.leaf { res:=.own 100,boxes:=[],news:=[.row 31 (Ty.sl (Ty.int IntKind.i64)) l] })):=by kernel_rfl
def c_cloneVN:MC P:=MC.of (α:=(List (List Int)×Bool)×Unit) 111 L_cloneVN (fun x=>x) (fun x=>x) (fun _=>rfl)
 (fun x=>some ((x.1.2=true->x.1.1=[])/\x.1.1.length<=1000))
 (fun x=>⟨.own 100,[],[.row 31 tIs x.1.1]⟩) (by kernel_rfl) (by kernel_rfl) (by kernel_rfl) (by
  rintro⟨⟨l,b⟩,⟨⟩⟩ hp
  refine m_nil hm (own:=true) (by kernel_rfl) (by kernel_rfl) (by kernel_rfl) (T_cloneVN l b) trivial (by kernel_rfl) (by kernel_rfl) ?_
  obtain⟨h1,h2⟩:(b=true->l=[])/\l.length<=1000:=hp
  exact⟨fun h=>.inr ⟨rfl,rfl,h1 h,nilS_own⟩,fun _=>⟨by omega,.inl rfl⟩⟩)
def c_cloneI:FC P where
 f:=c_cloneIN.f
 ps:=[.val (.sl tI)]
 pre:=fun x=>some (List.length (α:=Int) x.1<=1000)
 out:=fun x=>.sl tI x.1
 ent:=c_cloneIN.ent
 ok:=fun x h=>qY.byNil fun b hb=>c_cloneIN.ok ((x.1,b),()) ⟨hb,h⟩
def c_cloneP:FC P where
 f:=c_clonePN.f
 ps:=[.val (.sl tPm)]
 pre:=fun x=>some (List.length (α:=Pm) x.1<=1000)
 out:=fun x=>.sl tPm x.1
 ent:=c_clonePN.ent
 ok:=fun x h=>qY.byNil fun b hb=>c_clonePN.ok ((x.1,b),()) ⟨hb,h⟩
def c_cloneE:FC P where
 f:=c_cloneEN.f
 ps:=[.val (.sl tEl)]
 pre:=fun x=>some (List.length (α:=E4) x.1<=1000)
 out:=fun x=>.sl tEl x.1
 ent:=c_cloneEN.ent
 ok:=fun x h=>qY.byNil fun b hb=>c_cloneEN.ok ((x.1,b),()) ⟨hb,h⟩
def c_cloneV:MC P where
 f:=c_cloneVN.f
 L:={ slots:=[(0,.val gR)] }
 pre:=fun x=>some (List.length (α:=List Int) x.1<=1000)
 out:=fun x=>⟨.own 100,[],[.row 31 tIs x.1]⟩
 mok:=by kernel_rfl
 ent:=c_cloneVN.ent
 pok:=by kernel_rfl
 ok:=fun x h=>qV.byNil fun b hb=>c_cloneVN.ok ((x.1,b),()) ⟨hb,h⟩
def sOk(s:zE):Prop:=hOk s.2.2.2.2.2.1/\s.2.2.2.2.2.2.1.length<=1000
theorem set_same{α:Type}(d:α) (l:List α) (i:Nat):l.set i (l.getD i d)=l:=by
 apply List.ext_getElem?
 intro k
 rw[List.getElem?_set]
 split
 ·rename_i h
  subst h
  rw[List.getD_eq_getElem?_getD]
  cases e:l[i]? with
  |none=>
   rw[List.getElem?_eq_none_iff] at e
   rw[if_neg (by omega)]
  |some v=>
   have:=(List.getElem?_eq_some_iff.1 e).1
   rw[if_pos (by omega)];rfl
 ·rfl
def L_Copy0:Lay:={ slots:=[(1,.ptr 2041 0),(2,.ptr 3041 0),(23,.val tI),(24,.val tI)],boxes:=[(2041,[.val tI,.val tI,.val tI,.val tI,.val tI,.val (.sl (.pair tI tV)),.row 31 tIs,.val tI,.val (.sl (.pair tI (.pair tI (.pair tI .bool)))),.val tI]),(3041,[.val tI,.val tI,.val tI,.val tI,.val tI,.val (.sl (.pair tI tV)),.val (.sl tIs),.val tI,.val (.sl (.pair tI (.pair tI (.pair tI .bool)))),.val tI])] }
def L_Copy0_0:Lay:={ slots:=[(1,.ptr 2041 0),(2,.ptr 3041 0)],boxes:=[(2041,[.val tI,.val tI,.val tI,.val tI,.val tI,.val (.sl (.pair tI tV)),.row 31 tIs,.val tI,.val (.sl (.pair tI (.pair tI (.pair tI .bool)))),.val tI]),(3041,[.val tI,.val tI,.val tI,.val tI,.val tI,.val (.sl (.pair tI tV)),.val (.sl tIs),.val tI,.val (.sl (.pair tI (.pair tI (.pair tI .bool)))),.val tI])] }
def X_Copy0:Exit->St->Option Lay
 |.exit 0,_=>some L_Copy0_0
 |_,_=>none
abbrev C_Copy0:Code:=jH (zJ Tryz.f64) 0
abbrev AuF1:Type:=Unit×Unit×Int×Int×Int×Int×Int×Int×Int×List (Int×V)×List (List Int)×Int×List (Int×(Int×(Int×Bool)))×Int×Int×Int×Int×Int×Int×List (Int×V)×List (List Int)×Int×List (Int×(Int×(Int×Bool)))×Int×Unit
theorem B_Copy0(n i qI gH qH qG qF:Int)(qE:List (Int×V))(envs:List (List Int))(qD:Int)(kZ:List (Int×(Int×(Int×Bool))))(qC b2_0 b2_1 b2_2 b2_3 b2_4:Int)(b2_5:List (Int×V))(b2_6:List (List Int))(b2_7:Int)(b2_8:List (Int×(Int×(Int×Bool))))(b2_9:Int):zF (P:=P) [c_cloneI.gc] (zH []) [] 41 noU (jI C_Copy0) L_Copy0 X_Copy0 (α:=AuF1) (fun x=>x) (fun x=>x) ((),(),n,i,qI,gH,qH,qG,qF,qE,envs,qD,kZ,qC,b2_0,b2_1,b2_2,b2_3,b2_4,b2_5,b2_6,b2_7,b2_8,b2_9,()) =
 Tree.cond (decide (i<n)) (.need (0<=i/\i<(envs.length:Int)) (.need (Int.toNat i<envs.length) (.need (List.length (envs.getD i.toNat [])<=1000) (.need (0<=i/\i<(envs.length:Int)) (.need (Int.toNat i<envs.length) (.leaf (Sum.inl ((),(),n,IntKind.i64.wrap (i+1),qI,gH,qH,qG,qF,qE,List.set envs i.toNat (envs.getD i.toNat []),qD,kZ,qC,b2_0,b2_1,b2_2,b2_3,b2_4,b2_5,b2_6,b2_7,b2_8,b2_9,())))))))) (.leaf (Sum.inr (Exit.exit 0,Lay.st L_Copy0_0 noU ((),(),qI,gH,qH,qG,qF,qE,envs,qD,kZ,qC,b2_0,b2_1,b2_2,b2_3,b2_4,b2_5,b2_6,b2_7,b2_8,b2_9,())))):=by kernel_rfl
def inv_Copy0:AuF1->Prop:=fun(_,_,n,i,_,_,_,_,_,_,envs,_)=>0<=i/\i<=n/\n=envs.length/\envs.length<=1000/\∀q∈envs,q.length<=1000
def O_Copy0:AuF1->Tree (Exit×St):=fun(_,_,_,_,qI,gH,qH,qG,qF,qE,envs,qD,kZ,qC,b2_0,b2_1,b2_2,b2_3,b2_4,b2_5,b2_6,b2_7,b2_8,b2_9,_)=>(.leaf (.exit 0,L_Copy0_0.st noU ((),(),qI,gH,qH,qG,qF,qE,envs,qD,kZ,qC,b2_0,b2_1,b2_2,b2_3,b2_4,b2_5,b2_6,b2_7,b2_8,b2_9,())))
def R_Copy0:jS:=j_ 41 L_Copy0 (fun x=>x) inv_Copy0 O_Copy0
theorem K_Copy0:zU P [] 41 none noU C_Copy0 R_Copy0:=by
 refine zT hm (cx:=[c_cloneI.gc]) [] (xl:=X_Copy0) (α:=AuF1) (fun x=>x) (fun(_,_,n,i,_)=>(n - i).toNat) (fun _=>rfl) (by kernel_rfl) (by kernel_rfl) ?_ (by kernel_rfl) trivial ?_
 ·intro e S L' h
  unfold X_Copy0 at h
  split at h<;>cases h<;>kernel_rfl
 ·rintro⟨⟨⟩,⟨⟩,n,i,qI,gH,qH,qG,qF,qE,envs,qD,kZ,qC,b2_0,b2_1,b2_2,b2_3,b2_4,b2_5,b2_6,b2_7,b2_8,b2_9,⟨⟩⟩ hinv Q hQ
  refine zD (B_Copy0 n i qI gH qH qG qF qE envs qD kZ qC b2_0 b2_1 b2_2 b2_3 b2_4 b2_5 b2_6 b2_7 b2_8 b2_9) ?_
  obtain⟨h0,h1,rfl,h2,h3⟩:=hinv
  rw[jZ (n:=i+1) (by omega) (by omega),set_same]
  refine⟨fun c1=>?_,fun c1=>hQ⟩
  have c1:=dcT c1
  have i1:0<=i/\i<(envs.length:Int):=⟨h0,c1⟩
  exact⟨i1,by omega,h3 _ (jT (by omega)),i1,by omega,⟨⟨by omega,by omega,rfl,h2,h3⟩,by show ((envs.length:Int) - (i+1)).toNat<((envs.length:Int) - i).toNat;omega⟩,hQ⟩
theorem T_Copy(m y z A B:Int)(g:List (Int×V))(a:List (List Int))(C:Int)(j:List (Int×(Int×(Int×Bool))))(D:Int):jD (P:=P) [c_cloneP.gc,c_cloneE.gc,c_cloneV.gc] (zH [(0,R_Copy0)]) Tryz.f64 (z_ 0 [.agg (.pair tI (.pair tI (.pair tI (.pair tI (.pair tI (.pair (.pair (.sl (.pair tI tV)) (.pair (.sl tIs) tI)) (.pair (.sl (.pair tI (.pair tI (.pair tI .bool)))) tI)))))))] ((m,(y,(z,(A,(B,((g,(a,C)),(j,D))))))),())) =
 Tree.need (j.length<=1000) (.need (g.length<=1000) (.need (a.length<=1000) (.need (inv_Copy0 ((),(),(a.length:Int),0,m,y,z,A,B,g,a,C,j,D,0,0,0,0,0,[],[],0,[],0,())) (.leaf (.agg [.int .i64 m,.int .i64 y,.int .i64 z,.int .i64 A,.int .i64 B,.sl (Ty.pair tI tV) g,.sl (Ty.sl tI) a,.int .i64 C,.sl (Ty.pair tI (Ty.pair tI (Ty.pair tI Ty.bool))) j,.int .i64 D]))))):=by kernel_rfl
def c_Copy:PC P:=PC.of (α:=(Int×(Int×(Int×(Int×(Int×((List (Int×V)×(List (List Int)×Int))×(List (Int×(Int×(Int×Bool)))×Int)))))))×Unit) 64 [.agg (.pair tI (.pair tI (.pair tI (.pair tI (.pair tI (.pair (.pair (.sl (.pair tI tV)) (.pair (.sl tIs) tI)) (.pair (.sl (.pair tI (.pair tI (.pair tI .bool)))) tI)))))))] (fun x=>x) (fun x=>x) (fun _=>rfl)
 (fun x=>some (sOk x.1))
 (fun x=>.agg [.int .i64 x.1.1,.int .i64 x.1.2.1,.int .i64 x.1.2.2.1,.int .i64 x.1.2.2.2.1,.int .i64 x.1.2.2.2.2.1,.sl tEl x.1.2.2.2.2.2.1.1,.sl tIs x.1.2.2.2.2.2.1.2.1,.int .i64 x.1.2.2.2.2.2.1.2.2,.sl tPm x.1.2.2.2.2.2.2.1,.int .i64 x.1.2.2.2.2.2.2.2]) (by kernel_rfl) (by
  rintro⟨⟨m,⟨y,⟨z,⟨A,⟨B,⟨⟨g,⟨a,C⟩⟩,⟨j,D⟩⟩⟩⟩⟩⟩⟩,⟨⟩⟩ hp
  refine fn_le hm (by kernel_rfl) (by kernel_rfl) (T_Copy m y z A B g a C j D) ⟨K_Copy0,trivial⟩ (by kernel_rfl) ?_
  try dsimp only at hp
  try dsimp only
  obtain⟨⟨p1,p2,p3⟩,p4⟩:sOk (m,y,z,A,B,(g,a,C),j,D):=hp
  exact⟨p4,p1,p2,⟨by decide,by omega,rfl,p2,p3⟩,rfl,rfl,rfl,rfl,rfl,rfl,rfl,rfl,rfl,rfl,trivial⟩)
end
end Go.MB
