/- Copies of lists and of sites. -/
import Derived.Test.YtfhomgggbhjglaaGreatMuE
namespace Go.MB
open Go Go.Sx Go.Proofs
set_option linter.unusedVariables false
set_option linter.unusedSimpArgs false
noncomputable section
theorem FreshOk.byNil{P:Program}{f:FuncId}{t:Ty}{l:List t.den}{o:SV}(h:∀b,(b=true->l=[])->FreshOk P f [.nsl t l b] o):FreshOk P f [.sl t l] o:=by
 intro I w vals hI hr
 have hr':=hr
 unfold zD at hr'
 obtain⟨v,r,rfl,hv,hr2⟩:=hr'
 classical
 refine h (decide (∃n c,v = .slice none n c)) (fun hb=>?_) I w _ hI ?_
 ·obtain⟨n,c,hn⟩:=dcT hb
  unfold Rep at hv
  obtain⟨u,hu,p,cap,e,_,hl⟩:=hv
  cases hu
  rcases hl with hl |⟨b,o,hp,_⟩
  ·exact hl
  ·rw[hn] at e
   cases e
   cases hp
 ·show zD _ _ w [SV.nsl t l _] (v::r)
  refine zD.cons ?_ hr2
  unfold Rep at hv ⊢
  exact⟨hv,decide_eq_true_iff⟩
theorem T_cloneIN(l:List Int)(b:Bool):frTree (P:=P) [] (zI []) Tryz.f112 (jM 0 [.oval tI] ((l,b),())) =
 Tree.cond b (.leaf .nils) (.need ((0+l.length)*8<=140737488355328) (.leaf (.sl (Ty.int IntKind.i64) l))):=by kernel_rfl
def c_cloneIN:FC P:=FC.of (α:=(List Int×Bool)×Unit) 112 [.oval tI] (fun x=>x) (fun x=>x) (fun _=>rfl)
 (fun x=>some ((x.1.2=true->x.1.1=[])/\x.1.1.length<=1000))
 (fun x=>.sl tI x.1.1) (by kernel_rfl) (by
  rintro⟨⟨l,b⟩,⟨⟩⟩ hp
  refine fr_le hm (by kernel_rfl) (by kernel_rfl) (T_cloneIN l b) trivial (by kernel_rfl) ?_
  obtain⟨h1,h2⟩:(b=true->l=[])/\l.length<=1000:=hp
  refine⟨fun h=>?_,fun _=>⟨by omega,rfl⟩⟩
  rw[h1 h];exact rfl)
theorem nilS_own:NilS .nils (.own 100):=by simp[NilS,zH]
def L_cloneVN:Lay:={ slots:=[(0,.oval tIs)] }
theorem T_cloneVN(l:List (List Int))(b:Bool):jF (P:=P) [] (zI []) Tryz.f111 L_cloneVN true ((l,b),()) =
 Tree.cond b (.leaf { res:=.nils,boxes:=[] }) (.need ((0+l.length)*24<=140737488355328) (.leaf { res:=.own 100,boxes:=[],news:=[.row 31 (Ty.sl (Ty.int IntKind.i64)) l] })):=by kernel_rfl
def c_cloneVN:MC P:=MC.of (α:=(List (List Int)×Bool)×Unit) 111 L_cloneVN (fun x=>x) (fun x=>x) (fun _=>rfl)
 (fun x=>some ((x.1.2=true->x.1.1=[])/\x.1.1.length<=1000))
 (fun x=>⟨.own 100,[],[.row 31 tIs x.1.1]⟩) (by kernel_rfl) (by kernel_rfl) (by kernel_rfl) (by
  rintro⟨⟨l,b⟩,⟨⟩⟩ hp
  refine m_nil hm (own:=true) (by kernel_rfl) (by kernel_rfl) (by kernel_rfl) (T_cloneVN l b) trivial (by kernel_rfl) (by kernel_rfl) ?_
  obtain⟨h1,h2⟩:(b=true->l=[])/\l.length<=1000:=hp
  exact⟨fun h=>.inr ⟨rfl,rfl,h1 h,nilS_own⟩,fun _=>⟨by omega,.inl rfl⟩⟩)
def c_cloneI:FC P where
 f:=c_cloneIN.f
 ps:=[.val (.sl tI)]
 pre:=fun x=>some (List.length (α:=Int) x.1<=1000)
 out:=fun x=>.sl tI x.1
 ent:=c_cloneIN.ent
 ok:=fun x h=>FreshOk.byNil fun b hb=>c_cloneIN.ok ((x.1,b),()) ⟨hb,h⟩
def c_cloneV:MC P where
 f:=c_cloneVN.f
 L:={ slots:=[(0,.val tIss)] }
 pre:=fun x=>some (List.length (α:=List Int) x.1<=1000)
 out:=fun x=>⟨.own 100,[],[.row 31 tIs x.1]⟩
 mok:=by kernel_rfl
 ent:=c_cloneVN.ent
 pok:=by kernel_rfl
 ok:=fun x h=>MFnOk.byNil fun b hb=>c_cloneVN.ok ((x.1,b),()) ⟨hb,h⟩
def sOk(s:zX):Prop:=hOk s.2.2.2.2.2.1/\s.2.2.2.2.2.2.1.length<=1000
theorem set_same{α:Type}(d:α) (l:List α) (i:Nat):l.set i (l.getD i d)=l:=by
 apply List.ext_getElem?
 intro k
 rw[List.getElem?_set]
 split
 ·rename_i h
  subst h
  rw[List.getD_eq_getElem?_getD]
  cases e:l[i]? with
  |none=>
   rw[List.getElem?_eq_none_iff] at e
   rw[if_neg (by omega)]
  |some v=>
   have:=(List.getElem?_eq_some_iff.1 e).1
   rw[if_pos (by omega)];rfl
 ·rfl
end
end Go.MB
