/- Copies of sites whose lists are rows of their own. -/
import Derived.Test.YtfhomgggbhjglaaGreatMuV
namespace Go.MB
open Go Go.Sx Go.Proofs
set_option linter.unusedVariables false
set_option linter.unusedSimpArgs false
noncomputable section
def L_clonePQ:Lay:={ slots:=[(0,.oval tPm)] }
theorem T_clonePQ(l:List Pm)(b:Bool):jF (P:=P) [] (zI []) Tryz.f109 L_clonePQ true ((l,b),()) =
 Tree.cond b (.leaf { res:=.nils,boxes:=[] }) (.need ((0+l.length)*32<=140737488355328) (.leaf { res:=.own 100,boxes:=[],news:=[.row 49 (Ty.pair (Ty.int IntKind.i64) (Ty.pair (Ty.int IntKind.i64) (Ty.pair (Ty.int IntKind.i64) Ty.bool))) l] })):=by kernel_rfl
def c_clonePQ:XC P:=XC.of (α:=(List Pm×Bool)×Unit) 109 L_clonePQ (fun x=>x) (fun x=>x) (fun _=>rfl)
 (fun x=>some ((x.1.2=true->x.1.1=[])/\x.1.1.length<=1000))
 (fun x=>⟨.own 100,[],[.row 49 tPm x.1.1]⟩) (by kernel_rfl) (by kernel_rfl) (by
  rintro⟨⟨l,b⟩,⟨⟩⟩ hp
  refine m_nil hm (own:=true) (by kernel_rfl) (by kernel_rfl) (by kernel_rfl) (T_clonePQ l b) trivial (by kernel_rfl) (by kernel_rfl) ?_
  obtain⟨h1,h2⟩:(b=true->l=[])/\l.length<=1000:=hp
  refine⟨fun h=>.inr ⟨rfl,rfl,h1 h,nilS_own⟩,fun _=>⟨by omega,.inl rfl⟩⟩)
def L_cloneEQ:Lay:={ slots:=[(0,.oval tEl)] }
theorem T_cloneEQ(l:List E4)(b:Bool):jF (P:=P) [] (zI []) Tryz.f110 L_cloneEQ true ((l,b),()) =
 Tree.cond b (.leaf { res:=.nils,boxes:=[] }) (.need ((0+l.length)*32<=140737488355328) (.leaf { res:=.own 100,boxes:=[],news:=[.row 47 (Ty.pair (Ty.int IntKind.i64) (Ty.pair (Ty.int IntKind.i64) (Ty.pair (Ty.int IntKind.i64) (Ty.int IntKind.i64)))) l] })):=by kernel_rfl
def c_cloneEQ:XC P:=XC.of (α:=(List E4×Bool)×Unit) 110 L_cloneEQ (fun x=>x) (fun x=>x) (fun _=>rfl)
 (fun x=>some ((x.1.2=true->x.1.1=[])/\x.1.1.length<=1000))
 (fun x=>⟨.own 100,[],[.row 47 tEl x.1.1]⟩) (by kernel_rfl) (by kernel_rfl) (by
  rintro⟨⟨l,b⟩,⟨⟩⟩ hp
  refine m_nil hm (own:=true) (by kernel_rfl) (by kernel_rfl) (by kernel_rfl) (T_cloneEQ l b) trivial (by kernel_rfl) (by kernel_rfl) ?_
  obtain⟨h1,h2⟩:(b=true->l=[])/\l.length<=1000:=hp
  refine⟨fun h=>.inr ⟨rfl,rfl,h1 h,nilS_own⟩,fun _=>⟨by omega,.inl rfl⟩⟩)
def c_clonePR:XC P where
 f:=c_clonePQ.f
 L:={ slots:=[(0,.val tPms)] }
 pre:=fun x=>some (List.length (α:=Pm) x.1<=1000)
 out:=fun x=>⟨.own 100,[],[.row 49 tPm x.1]⟩
 ent:=c_clonePQ.ent
 lok:=rfl
 ok:=fun x h=>MFnOk.byNil fun b hb=>c_clonePQ.ok ((x.1,b),()) ⟨hb,h⟩
def c_cloneER:XC P where
 f:=c_cloneEQ.f
 L:={ slots:=[(0,.val tEls)] }
 pre:=fun x=>some (List.length (α:=E4) x.1<=1000)
 out:=fun x=>⟨.own 100,[],[.row 47 tEl x.1]⟩
 ent:=c_cloneEQ.ent
 lok:=rfl
 ok:=fun x h=>MFnOk.byNil fun b hb=>c_cloneEQ.ok ((x.1,b),()) ⟨hb,h⟩
def L_CopyR0:Lay:={ slots:=[(1,.ptr 2041 0),(2,.ptr 3041 0),(23,.val tI),(24,.val tI)],boxes:=[(2041,[.val tI,.val tI,.val tI,.val tI,.val tI,.row 47 (.pair tI tV),.row 31 tIs,.val tI,.row 49 (.pair tI (.pair tI (.pair tI .bool))),.val tI]),(3041,[.val tI,.val tI,.val tI,.val tI,.val tI,.val (.sl (.pair tI tV)),.val (.sl tIs),.val tI,.val (.sl (.pair tI (.pair tI (.pair tI .bool)))),.val tI])] }
def L_CopyR0_0:Lay:={ slots:=[(1,.ptr 2041 0),(2,.ptr 3041 0)],boxes:=[(2041,[.val tI,.val tI,.val tI,.val tI,.val tI,.row 47 (.pair tI tV),.row 31 tIs,.val tI,.row 49 (.pair tI (.pair tI (.pair tI .bool))),.val tI]),(3041,[.val tI,.val tI,.val tI,.val tI,.val tI,.val (.sl (.pair tI tV)),.val (.sl tIs),.val tI,.val (.sl (.pair tI (.pair tI (.pair tI .bool)))),.val tI])] }
def X_CopyR0:Exit->St->Option Lay
 |.exit 0,_=>some L_CopyR0_0
 |_,_=>none
abbrev C_CopyR0:Code:=zQ (zJ Tryz.f64) 0
abbrev AuW1:Type:=Unit×Unit×Int×Int×Int×Int×Int×Int×Int×List (Int×V)×List (List Int)×Int×List (Int×(Int×(Int×Bool)))×Int×Int×Int×Int×Int×Int×List (Int×V)×List (List Int)×Int×List (Int×(Int×(Int×Bool)))×Int×Unit
theorem B_CopyR0(n i b1_0 b1_1 b1_2 b1_3 b1_4:Int)(b1_5:List (Int×V))(envs:List (List Int))(b1_7:Int)(b1_8:List (Int×(Int×(Int×Bool))))(b1_9 b2_0 b2_1 b2_2 b2_3 b2_4:Int)(b2_5:List (Int×V))(b2_6:List (List Int))(b2_7:Int)(b2_8:List (Int×(Int×(Int×Bool))))(b2_9:Int):zG (P:=P) [c_cloneI.gc] (zI []) [] 41 noU (zN C_CopyR0) L_CopyR0 X_CopyR0 (α:=AuW1) (fun x=>x) (fun x=>x) ((),(),n,i,b1_0,b1_1,b1_2,b1_3,b1_4,b1_5,envs,b1_7,b1_8,b1_9,b2_0,b2_1,b2_2,b2_3,b2_4,b2_5,b2_6,b2_7,b2_8,b2_9,()) =
 Tree.cond (decide (i<n)) (.need (0<=i/\i<(envs.length:Int)) (.need (Int.toNat i<envs.length) (.need (List.length (envs.getD i.toNat [])<=1000) (.need (0<=i/\i<(envs.length:Int)) (.need (Int.toNat i<envs.length) (.leaf (Sum.inl ((),(),n,IntKind.i64.wrap (i+1),b1_0,b1_1,b1_2,b1_3,b1_4,b1_5,List.set envs i.toNat (envs.getD i.toNat []),b1_7,b1_8,b1_9,b2_0,b2_1,b2_2,b2_3,b2_4,b2_5,b2_6,b2_7,b2_8,b2_9,())))))))) (.leaf (Sum.inr (Exit.exit 0,Lay.st L_CopyR0_0 noU ((),(),b1_0,b1_1,b1_2,b1_3,b1_4,b1_5,envs,b1_7,b1_8,b1_9,b2_0,b2_1,b2_2,b2_3,b2_4,b2_5,b2_6,b2_7,b2_8,b2_9,())))):=by kernel_rfl
def inv_CopyR0:AuW1->Prop:=fun(_,_,n,i,_,_,_,_,_,_,envs,_)=>0<=i/\i<=n/\n=envs.length/\envs.length<=1000/\∀q∈envs,q.length<=1000
def O_CopyR0:AuW1->Tree (Exit×St):=fun(_,_,_,_,b1_0,b1_1,b1_2,b1_3,b1_4,b1_5,envs,b1_7,b1_8,b1_9,b2_0,b2_1,b2_2,b2_3,b2_4,b2_5,b2_6,b2_7,b2_8,b2_9,_)=>(.leaf (.exit 0,L_CopyR0_0.st noU ((),(),b1_0,b1_1,b1_2,b1_3,b1_4,b1_5,envs,b1_7,b1_8,b1_9,b2_0,b2_1,b2_2,b2_3,b2_4,b2_5,b2_6,b2_7,b2_8,b2_9,())))
def R_CopyR0:jA:=zY 41 L_CopyR0 (fun x=>x) inv_CopyR0 O_CopyR0
theorem K_CopyR0:zL P [] 41 none noU C_CopyR0 R_CopyR0:=by
 refine zM hm (cx:=[c_cloneI.gc]) [] (xl:=X_CopyR0) (α:=AuW1) (fun x=>x) (fun(_,_,n,i,_)=>(n - i).toNat) (fun _=>rfl) (by kernel_rfl) (by kernel_rfl) ?_ (by kernel_rfl) trivial ?_
 ·intro e S L' h
  unfold X_CopyR0 at h
  split at h<;>cases h<;>kernel_rfl
 ·rintro⟨⟨⟩,⟨⟩,n,i,b1_0,b1_1,b1_2,b1_3,b1_4,b1_5,envs,b1_7,b1_8,b1_9,b2_0,b2_1,b2_2,b2_3,b2_4,b2_5,b2_6,b2_7,b2_8,b2_9,⟨⟩⟩ hinv Q hQ
  refine zF (B_CopyR0 n i b1_0 b1_1 b1_2 b1_3 b1_4 b1_5 envs b1_7 b1_8 b1_9 b2_0 b2_1 b2_2 b2_3 b2_4 b2_5 b2_6 b2_7 b2_8 b2_9) ?_
  obtain⟨h0,h1,rfl,h2,h3⟩:=hinv
  rw[jK (n:=i+1) (by omega) (by omega),set_same]
  refine⟨fun c1=>?_,fun c1=>hQ⟩
  have c1:=dcT c1
  have i1:0<=i/\i<(envs.length:Int):=⟨h0,c1⟩
  exact⟨i1,by omega,h3 _ (getD_mem (by omega)),i1,by omega,⟨⟨by omega,by omega,rfl,h2,h3⟩,by show ((envs.length:Int) - (i+1)).toNat<((envs.length:Int) - i).toNat;omega⟩,hQ⟩
def L_CopyR:Lay:={ slots:=[(0,.agg (.pair tI (.pair tI (.pair tI (.pair tI (.pair tI (.pair (.pair (.sl (.pair tI tV)) (.pair (.sl tIs) tI)) (.pair (.sl (.pair tI (.pair tI (.pair tI .bool)))) tI))))))))] }
theorem T_CopyR(g j k m o:Int)(c:List (Int×V))(a:List (List Int))(p:Int)(d:List (Int×(Int×(Int×Bool))))(r:Int):jF (P:=P) [c_clonePR.gc,c_cloneER.gc,c_cloneV.gc] (zI [(0,R_CopyR0)]) Tryz.f64 L_CopyR true ((g,(j,(k,(m,(o,((c,(a,p)),(d,r))))))),()) =
 Tree.need (d.length<=1000) (.need (c.length<=1000) (.need (a.length<=1000) (.need (inv_CopyR0 ((),(),(a.length:Int),0,g,j,k,m,o,c,a,p,d,r,0,0,0,0,0,[],[],0,[],0,())) (.leaf { res:=.agg [.int .i64 g,.int .i64 j,.int .i64 k,.int .i64 m,.int .i64 o,.own 100,.own 101,.int .i64 p,.own 102,.int .i64 r],boxes:=[],news:=[.row 47 (Ty.pair tI tV) c,.row 31 tIs a,.row 49 (Ty.pair tI (Ty.pair tI (Ty.pair tI Ty.bool))) d] })))):=by kernel_rfl
def c_CopyR:MC P:=MC.of (α:=(Int×(Int×(Int×(Int×(Int×((List (Int×V)×(List (List Int)×Int))×(List (Int×(Int×(Int×Bool)))×Int)))))))×Unit) 64 L_CopyR (fun x=>x) (fun x=>x) (fun _=>rfl)
 (fun x=>some (sOk x.1))
 (fun x=>⟨.agg [.int .i64 x.1.1,.int .i64 x.1.2.1,.int .i64 x.1.2.2.1,.int .i64 x.1.2.2.2.1,.int .i64 x.1.2.2.2.2.1,.own 100,.own 101,.int .i64 x.1.2.2.2.2.2.1.2.2,.own 102,.int .i64 x.1.2.2.2.2.2.2.2],[],[.row 47 tEl x.1.2.2.2.2.2.1.1,.row 31 tIs x.1.2.2.2.2.2.1.2.1,.row 49 tPm x.1.2.2.2.2.2.2.1]⟩) (by kernel_rfl) (by kernel_rfl) (by kernel_rfl) (by
  rintro⟨⟨g,⟨j,⟨k,⟨m,⟨o,⟨⟨c,⟨a,p⟩⟩,⟨d,r⟩⟩⟩⟩⟩⟩⟩,⟨⟩⟩ hp
  refine m_of hm (own:=true) (by kernel_rfl) (by kernel_rfl) (by kernel_rfl) (T_CopyR g j k m o c a p d r) ⟨K_CopyR0,trivial⟩ ?_
  try dsimp only at hp
  try dsimp only
  obtain⟨⟨p1,p2,p3⟩,p4⟩:sOk (g,j,k,m,o,(c,a,p),d,r):=hp
  exact⟨p4,p1,p2,⟨by decide,by omega,rfl,p2,p3⟩,rfl⟩)
end
end Go.MB
