/- Entries that hand over the command, at a site where no operation goes on. -/
import Derived.Test.YtfhomgggbhjglaaGreatMuG
namespace Go.MB
open Go Go.Sx Go.Proofs
set_option linter.unusedVariables false
set_option linter.unusedSimpArgs false
noncomputable section
def offB(s:zX)(e:zP):Bool:=!memB s.2.1 e.2.2.2.2.1||(e.2.2.2.2.1==s.2.2.1)
def offE(s:zX)(e:zP):Int:=if (e.2.2.1 != s.2.2.1)=true then 10 else if offB s e=true then 2 else 0
def offO(s:zX)(e:zP):Int:=if offE s e=0 then e.2.2.2.2.1 else s.2.2.2.1
def takE(s:zX)(e:zP):Int:=if (e.2.2.1 != s.2.2.2.1)=true then 10 else 0
def takH(s:zX)(e:zP):Int:=if takE s e=0 then e.2.2.1 else s.2.2.1
def takO(s:zX)(e:zP):Int:=if takE s e=0 then -1 else s.2.2.2.1
def L_deeds:Lay:={ slots:=[] }
theorem T_deeds(_:Unit):jF (P:=P) [] (zI []) Tryz.f99 L_deeds true () =
 Tree.leaf { res:=SV.mp 100,boxes:=[],news:=[Ob.mp ([((1:Int),134)]++[((2:Int),135)]++[((3:Int),136)]++[((4:Int),137)]++[((5:Int),138)]++[((6:Int),139)]++[((7:Int),140)]++[((8:Int),141)]++[((9:Int),142)]++[((10:Int),143)])] }:=by kernel_rfl
def c_deeds:MC P:=MC.of (α:=Unit) 99 L_deeds (fun x=>x) (fun x=>x) (fun _=>rfl)
 (fun _=>none)
 (fun _=>⟨.mp 100,[],[.mp [(1,134),(2,135),(3,136),(4,137),(5,138),(6,139),(7,140),(8,141),(9,142),(10,143)]]⟩) (by kernel_rfl) (by kernel_rfl) (by kernel_rfl) (by
  rintro⟨⟩ hp
  refine m_of hm (own:=true) (by kernel_rfl) (by kernel_rfl) (by kernel_rfl) (T_deeds ()) trivial ?_
  exact rfl)
def zSite:zX:=(0,0,0,0,0,([],[],0),[],0)
theorem chkS_house{s:zX}(h:chkS s=0):zE s.2.2.2.2.2.1=0:=by
 unfold chkS at h
 split at h
 ·cases h
 split at h
 ·rename_i h2;exact absurd h h2
 ·rename_i h2;exact Decidable.not_not.1 h2
def shownH:Hs:=([(2,1000,0,100),(2,2000,0,100),(2,1500,0,50),(1,0,0,0)],[[0,1],[1,2],[2],[3]],2)
theorem T_shown(_:Unit):zU (P:=P) [] (zI []) Tryz.f44 (jM 0 [] ()) =
 Tree.leaf (.agg [.sl (Ty.pair (Ty.int IntKind.i64) (Ty.pair (Ty.int IntKind.i64) (Ty.pair (Ty.int IntKind.i64) (Ty.int IntKind.i64)))) [((2:Int),(1000:Int),(0:Int),(100:Int)),((2:Int),(2000:Int),(0:Int),(100:Int)),((2:Int),(1500:Int),(0:Int),(50:Int)),((1:Int),(0:Int),(0:Int),(0:Int))],.sl (Ty.sl (Ty.int IntKind.i64)) [[(0:Int),(1:Int)],[(1:Int),(2:Int)],[(2:Int)],[(3:Int)]],.int .i64 2]):=by kernel_rfl
def c_shown:PC P:=PC.of (α:=Unit) 44 [] (fun x=>x) (fun x=>x) (fun _=>rfl)
 (fun _=>none)
 (fun x=>.agg [.sl tEl shownH.1,.sl tIs shownH.2.1,.int .i64 2]) (by kernel_rfl) (by
  rintro⟨⟩ hp
  refine fn_le hm (by kernel_rfl) (by kernel_rfl) (T_shown ()) trivial (by kernel_rfl) ?_
  try dsimp only at hp
  try dsimp only
  exact⟨rfl,rfl,rfl,trivial⟩)
theorem T_place(_:Unit):zU (P:=P) [c_shown.gc] (zI []) Tryz.f47 (jM 0 [] ()) =
 Tree.leaf (.agg [.int .i64 0,.int .i64 3,.int .i64 0,.int .i64 (-1:Int),.int .i64 1000,.sl (Ty.pair tI (Ty.pair tI (Ty.pair tI tI))) shownH.1,.sl (Ty.sl tI) shownH.2.1,.int .i64 2,.nils,.int .i64 (-1:Int)]):=by kernel_rfl
def c_place:PC P:=PC.of (α:=Unit) 47 [] (fun x=>x) (fun x=>x) (fun _=>rfl)
 (fun _=>none)
 (fun x=>.agg [.int .i64 0,.int .i64 3,.int .i64 0,.int .i64 (-1),.int .i64 1000,.sl tEl shownH.1,.sl tIs shownH.2.1,.int .i64 2,.sl tPm [],.int .i64 (-1)]) (by kernel_rfl) (by
  rintro⟨⟩ hp
  refine fn_le hm (by kernel_rfl) (by kernel_rfl) (T_place ()) trivial (by kernel_rfl) ?_
  try dsimp only at hp
  try dsimp only
  exact⟨rfl,rfl,rfl,rfl,rfl,rfl,rfl,rfl,rfl,rfl,trivial⟩)
def L_SameIntL:Lay:={ slots:=[(0,.val tIs),(1,.val tIs),(5,.val tI)] }
def L_SameIntL_0:Lay:={ slots:=[(4,.val .bool)] }
def L_SameIntL_1:Lay:={ slots:=[(0,.val tIs),(1,.val tIs)] }
def X_SameIntL:Exit->St->Option Lay
 |.ret,_=>some L_SameIntL_0
 |.exit 0,_=>some L_SameIntL_1
 |_,_=>none
abbrev C_SameIntL:Code:=zQ (zJ Tryz.f45) 0
abbrev AuH1:Type:=List Int×List Int×Int×Unit
theorem B_SameIntL(a b:List Int)(i:Int):zG (P:=P) [] (zI []) [] 32 noU (zN C_SameIntL) L_SameIntL X_SameIntL (α:=AuH1) (fun x=>x) (fun x=>x) (a,b,i,()) =
 Tree.cond (decide (i<(a.length:Int))) (.cond (decide (i<(b.length:Int))) (.need (0<=i/\i<(a.length:Int)) (.need (0<=i/\i<(b.length:Int)) (.cond (a.getD i.toNat 0 != b.getD i.toNat 0) (.leaf (Sum.inr (Exit.ret,Lay.st L_SameIntL_0 noU (false,())))) (.leaf (Sum.inl (a,b,IntKind.i64.wrap (i+1),())))))) (.leaf (Sum.inr (Exit.exit 0,Lay.st L_SameIntL_1 noU (a,b,()))))) (.leaf (Sum.inr (Exit.exit 0,Lay.st L_SameIntL_1 noU (a,b,())))):=by kernel_rfl
def inv_SameIntL:AuH1->Prop:=fun(a,b,i,_)=>0<=i/\i<=a.length/\a=b/\(a.length:Int)<2 ^ 62
def O_SameIntL:AuH1->Tree (Exit×St):=fun(a,b,_)=>(.leaf (.exit 0,L_SameIntL_1.st noU (a,b,())))
def R_SameIntL:jA:=zY 32 L_SameIntL (fun x=>x) inv_SameIntL O_SameIntL
theorem K_SameIntL:zL P [] 32 none noU C_SameIntL R_SameIntL:=by
 refine zM hm (cx:=[]) [] (xl:=X_SameIntL) (α:=AuH1) (fun x=>x) (fun(a,_,i,_)=>(a.length - i).toNat) (fun _=>rfl) (by kernel_rfl) (by kernel_rfl) ?_ (by kernel_rfl) trivial ?_
 ·intro e S L' h
  unfold X_SameIntL at h
  split at h<;>cases h<;>kernel_rfl
 ·rintro⟨a,b,i,⟨⟩⟩ hinv Q hQ
  refine zF (B_SameIntL a b i) ?_
  obtain⟨h0,h1,rfl,h2⟩:=hinv
  rw[jK (n:=i+1) (by omega) (by omega)]
  refine⟨fun c1=>⟨fun c1=>?_,fun c1=>hQ⟩,fun c1=>hQ⟩
  have c1:=dcT c1
  exact⟨⟨h0,c1⟩,⟨h0,c1⟩,fun c2=>absurd c2 (by simp),fun c2=>⟨⟨⟨by omega,by omega,rfl,h2⟩,by show ((a.length:Int) - (i+1)).toNat<((a.length:Int) - i).toNat;omega⟩,hQ⟩⟩
theorem T_SameInts(a b:List Int):zU (P:=P) [] (zI [(0,R_SameIntL)]) Tryz.f45 (jM 0 [.val tIs,.val tIs] (a,b,())) =
 Tree.need (inv_SameIntL (a,b,0,())) (.leaf (.bool ((a.length:Int)==(b.length:Int)))):=by kernel_rfl
def c_SameInts:PC P:=PC.of (α:=List Int×List Int×Unit) 45 [.val tIs,.val tIs] (fun x=>x) (fun x=>x) (fun _=>rfl)
 (fun x=>some (x.1=x.2.1/\(x.1.length:Int)<2 ^ 62))
 (fun x=>.bool true) (by kernel_rfl) (by
  rintro⟨a,b,⟨⟩⟩ hp
  refine fn_of hm (by kernel_rfl) (by kernel_rfl) (T_SameInts a b) ⟨K_SameIntL,trivial⟩ ?_
  try dsimp only at hp
  try dsimp only
  obtain⟨rfl,h1⟩:a=b/\(a.length:Int)<2 ^ 62:=hp
  refine⟨⟨by decide,by omega,rfl,h1⟩,?_⟩
  show SV.bool _=SV.bool true
  simp)
end
end Go.MB
