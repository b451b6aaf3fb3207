/- Sorting: the library's insertion sort writes a row in place. -/
import Derived.Test.YtfhomgggbhjglaaGreatMuI
namespace Go.MB
open Go Go.Sx Go.Proofs
set_option linter.unusedVariables false
set_option linter.unusedSimpArgs false
noncomputable section
def lenB(x:Int):Int:=if x=0 then 0 else if x<2 then 1 else if x<4 then 2 else if x<8 then 3 else 4
def collapse{β:Type}:Tree β->Tree β
 |.leaf b=>.leaf b
 |.cond c t e=>bif c then collapse t else collapse e
 |.need p t=>.need p (collapse t)
 |.fail n=>.fail n
theorem gC{β:Type}{Q:β->Prop}:∀{t:Tree β},(collapse t).holds Q->t.holds Q
 |.leaf b,h=>h
 |.cond true t e,h=>⟨fun _=>gC (t:=t) h,fun k=>(by cases k)⟩
 |.cond false t e,h=>⟨fun k=>(by cases k),fun _=>gC (t:=e) h⟩
 |.need p t,h=>⟨h.1,gC h.2⟩
 |.fail n,h=>h
theorem yW{cx:List (GC P)}{lps:List (Nat×jS)}{f:FuncId}{fn:Func}(hf:P.funcs[f]? = some fn) {args:List SV}{res:SV}(hn:yN ((vP 0 (zJ fn)).map (·.1))=true)
  {T:Tree SV}(ht:collapse (jD cx (zH lps) fn args)=T) (hl:AllK P [] fn.ntmps none noU (zJ fn) lps) (h:T.holds fun s=>s=res):FnOk P f args res :=
 yK hm hf hn rfl hl (gC (by rw[ht];exact h))
def c_len64:PC P:=PC.of (α:=Int×Unit) 155 [.val (.int .u64)] (fun x=>x) (fun x=>x) (fun _=>rfl) (fun x=>some (0<=x.1/\x.1<=12)) (fun x=>.int .i64 (lenB x.1)) (by kernel_rfl)
 (by
  rintro⟨x,⟨⟩⟩ hp
  obtain⟨h0,h1⟩:0<=x/\x<=12:=hp
  have h:x=0\/x=1\/x=2\/x=3\/x=4\/x=5\/x=6\/x=7\/x=8\/x=9\/x=10\/x=11\/x=12:=by omega
  rcases h with rfl |rfl |rfl |rfl |rfl |rfl |rfl |rfl |rfl |rfl |rfl |rfl |rfl
  ·exact yW (fn:=Tryz.f155) (cx:=[]) (lps:=[]) (by kernel_rfl) (by kernel_rfl) (T:=.need ((0:Int)<=0/\(0:Int)<256) (.leaf (.int .i64 0))) (by kernel_rfl) trivial ⟨by decide,rfl⟩
  ·exact yW (fn:=Tryz.f155) (cx:=[]) (lps:=[]) (by kernel_rfl) (by kernel_rfl) (T:=.need ((0:Int)<=1/\(1:Int)<256) (.leaf (.int .i64 1))) (by kernel_rfl) trivial ⟨by decide,rfl⟩
  ·exact yW (fn:=Tryz.f155) (cx:=[]) (lps:=[]) (by kernel_rfl) (by kernel_rfl) (T:=.need ((0:Int)<=2/\(2:Int)<256) (.leaf (.int .i64 2))) (by kernel_rfl) trivial ⟨by decide,rfl⟩
  ·exact yW (fn:=Tryz.f155) (cx:=[]) (lps:=[]) (by kernel_rfl) (by kernel_rfl) (T:=.need ((0:Int)<=3/\(3:Int)<256) (.leaf (.int .i64 2))) (by kernel_rfl) trivial ⟨by decide,rfl⟩
  ·exact yW (fn:=Tryz.f155) (cx:=[]) (lps:=[]) (by kernel_rfl) (by kernel_rfl) (T:=.need ((0:Int)<=4/\(4:Int)<256) (.leaf (.int .i64 3))) (by kernel_rfl) trivial ⟨by decide,rfl⟩
  ·exact yW (fn:=Tryz.f155) (cx:=[]) (lps:=[]) (by kernel_rfl) (by kernel_rfl) (T:=.need ((0:Int)<=5/\(5:Int)<256) (.leaf (.int .i64 3))) (by kernel_rfl) trivial ⟨by decide,rfl⟩
  ·exact yW (fn:=Tryz.f155) (cx:=[]) (lps:=[]) (by kernel_rfl) (by kernel_rfl) (T:=.need ((0:Int)<=6/\(6:Int)<256) (.leaf (.int .i64 3))) (by kernel_rfl) trivial ⟨by decide,rfl⟩
  ·exact yW (fn:=Tryz.f155) (cx:=[]) (lps:=[]) (by kernel_rfl) (by kernel_rfl) (T:=.need ((0:Int)<=7/\(7:Int)<256) (.leaf (.int .i64 3))) (by kernel_rfl) trivial ⟨by decide,rfl⟩
  ·exact yW (fn:=Tryz.f155) (cx:=[]) (lps:=[]) (by kernel_rfl) (by kernel_rfl) (T:=.need ((0:Int)<=8/\(8:Int)<256) (.leaf (.int .i64 4))) (by kernel_rfl) trivial ⟨by decide,rfl⟩
  ·exact yW (fn:=Tryz.f155) (cx:=[]) (lps:=[]) (by kernel_rfl) (by kernel_rfl) (T:=.need ((0:Int)<=9/\(9:Int)<256) (.leaf (.int .i64 4))) (by kernel_rfl) trivial ⟨by decide,rfl⟩
  ·exact yW (fn:=Tryz.f155) (cx:=[]) (lps:=[]) (by kernel_rfl) (by kernel_rfl) (T:=.need ((0:Int)<=10/\(10:Int)<256) (.leaf (.int .i64 4))) (by kernel_rfl) trivial ⟨by decide,rfl⟩
  ·exact yW (fn:=Tryz.f155) (cx:=[]) (lps:=[]) (by kernel_rfl) (by kernel_rfl) (T:=.need ((0:Int)<=11/\(11:Int)<256) (.leaf (.int .i64 4))) (by kernel_rfl) trivial ⟨by decide,rfl⟩
  ·exact yW (fn:=Tryz.f155) (cx:=[]) (lps:=[]) (by kernel_rfl) (by kernel_rfl) (T:=.need ((0:Int)<=12/\(12:Int)<256) (.leaf (.int .i64 4))) (by kernel_rfl) trivial ⟨by decide,rfl⟩)
theorem T_blen(x:Int):jD (P:=P) [c_len64.gc] (zH []) Tryz.f124 (z_ 0 [.val (.int .u64)] (x,())) =
 Tree.need (0<=x/\x<=12) (.leaf (.int .i64 (lenB x))):=by kernel_rfl
def c_blen:PC P:=PC.of (α:=Int×Unit) 124 [.val (.int .u64)] (fun x=>x) (fun x=>x) (fun _=>rfl)
 (fun x=>some (0<=x.1/\x.1<=12))
 (fun x=>.int .i64 (lenB x.1)) (by kernel_rfl) (by
  rintro⟨x,⟨⟩⟩ hp
  refine yK hm (by kernel_rfl) (by kernel_rfl) (T_blen x) trivial ?_
  exact⟨hp,rfl⟩)
theorem T_cnan(s0:Int):jD (P:=P) [] (zH []) Tryz.f184 (z_ 0 [.val tI] (s0,())) =
 Tree.leaf (.bool (s0 != s0)):=by kernel_rfl
def c_cnan:PC P:=PC.of (α:=Int×Unit) 184 [.val tI] (fun x=>x) (fun x=>x) (fun _=>rfl)
 (fun _=>none)
 (fun x=>.bool false) (by kernel_rfl) (by
  rintro⟨s0,⟨⟩⟩ hp
  refine yK hm (by kernel_rfl) (by kernel_rfl) (T_cnan s0) trivial ?_
  try dsimp only at hp
  try dsimp only
  exact congrArg SV.bool (show (s0 != s0)=false by simp))
theorem T_cless(s0 s1:Int):jD (P:=P) [c_cnan.gc] (zH []) Tryz.f174 (z_ 0 [.val tI,.val tI] (s0,s1,())) =
 Tree.cond false (.cond true (.leaf (.bool true)) (.leaf (.bool (decide (s0<s1))))) (.leaf (.bool (decide (s0<s1)))):=by kernel_rfl
def c_cless:PC P:=PC.of (α:=Int×Int×Unit) 174 [.val tI,.val tI] (fun x=>x) (fun x=>x) (fun _=>rfl)
 (fun _=>none)
 (fun x=>.bool (decide (x.1<x.2.1))) (by kernel_rfl) (by
  rintro⟨s0,s1,⟨⟩⟩ hp
  refine yK hm (by kernel_rfl) (by kernel_rfl) (T_cless s0 s1) trivial ?_
  try dsimp only at hp
  try dsimp only
  exact⟨fun h=>(by cases h),fun _=>rfl⟩)
def swp(l:List Int)(j:Int):List Int:=(l.set j.toNat (l.getD (j - 1).toNat 0)).set (j - 1).toNat (l.getD j.toNat 0)
def insJ(lt:Int->Int->Bool)(a:Int):Nat->Int->List Int->List Int
 |0,_,l=>l
 |k+1,j,l=>if (decide (j>a)&&lt (l.getD j.toNat 0) (l.getD (j - 1).toNat 0))=true then insJ lt a k (j - 1) (swp l j) else l
def isO(lt:Int->Int->Bool)(a:Int):Nat->Int->List Int->List Int
 |0,_,l=>l
 |k+1,i,l=>isO lt a k (i+1) (insJ lt a (i - a).toNat i l)
theorem swp_len(l:List Int)(j:Int):(swp l j).length=l.length:=by unfold swp;rw[List.length_set,List.length_set]
theorem insJ_len(lt:Int->Int->Bool)(a:Int):∀(k:Nat)(j:Int)(l:List Int),(insJ lt a k j l).length=l.length
 |0,_,_=>rfl
 |k+1,j,l=>by
  rw[insJ]
  split
  ·rw[insJ_len,swp_len]
  ·rfl
theorem isO_len(lt:Int->Int->Bool)(a:Int):∀(k:Nat)(i:Int)(l:List Int),(isO lt a k i l).length=l.length
 |0,_,_=>rfl
 |k+1,i,l=>by rw[isO,isO_len,insJ_len]
def ltI(x y:Int):Bool:=decide (x<y)
def L_iso2:Lay:={ slots:=[(0,.rowk 50 2 tI),(1,.val tI),(2,.val tI),(6,.val tI),(7,.val tI)] }
def L_iso2_0:Lay:={ slots:=[(0,.rowk 50 2 tI),(1,.val tI),(2,.val tI),(6,.val tI)] }
def X_iso2:Exit->St->Option Lay
 |.exit 2,_=>some L_iso2_0
 |_,_=>none
abbrev C_iso2:Code:=jH (jI (jH (zJ Tryz.f168) 0)) 2
abbrev AuN3:Type:=List Int×Int×Int×Int×Int×Unit
theorem B_iso2(l:List Int)(a b i j:Int):zF (P:=P) [c_cless.gc] (zH []) [] 49 (usd noU [50]) (jI C_iso2) L_iso2 X_iso2 (α:=AuN3) (fun x=>x) (fun x=>x) (l,a,b,i,j,()) =
 Tree.cond (decide (j>a)) (.need (0<=j/\j<(l.length:Int)) (.need (Int.toNat j<l.length) (.need (0<=IntKind.i64.wrap (j - 1)/\IntKind.i64.wrap (j - 1)<(l.length:Int)) (.need (Int.toNat (IntKind.i64.wrap (j - 1))<l.length) (.cond (decide (l.getD j.toNat 0<List.getD l (Int.toNat (IntKind.i64.wrap (j - 1))) 0)) (.need (0<=IntKind.i64.wrap (j - 1)/\IntKind.i64.wrap (j - 1)<(l.length:Int)) (.need (Int.toNat (IntKind.i64.wrap (j - 1))<l.length) (.need (0<=j/\j<(l.length:Int)) (.need (Int.toNat j<l.length) (.need (0<=j/\j<(l.length:Int)) (.need (Int.toNat j<l.length) (.need (0<=IntKind.i64.wrap (j - 1)/\IntKind.i64.wrap (j - 1)<(↑(List.length (List.set l j.toNat (List.getD l (Int.toNat (IntKind.i64.wrap (j - 1))) 0))):Int)) (.need (Int.toNat (IntKind.i64.wrap (j - 1))<List.length (List.set l j.toNat (List.getD l (Int.toNat (IntKind.i64.wrap (j - 1))) 0))) (.leaf (Sum.inl (List.set (List.set l j.toNat (List.getD l (Int.toNat (IntKind.i64.wrap (j - 1))) 0)) (Int.toNat (IntKind.i64.wrap (j - 1))) (l.getD j.toNat 0),a,b,i,IntKind.i64.wrap (j - 1),()))))))))))) (.leaf (Sum.inr (Exit.exit 2,Lay.st L_iso2_0 (usd noU [50]) (l,a,b,i,()))))))))) (.leaf (Sum.inr (Exit.exit 2,Lay.st L_iso2_0 (usd noU [50]) (l,a,b,i,())))):=by kernel_rfl
def inv_iso2:AuN3->Prop:=fun(l,a,_,_,j,_)=>0<=a/\a<=j/\j<l.length/\(l.length:Int)<2 ^ 62
def O_iso2:AuN3->Tree (Exit×St):=fun(l,a,b,i,j,_)=>.leaf (.exit 2,L_iso2_0.st (usd noU [50]) (insJ ltI a (j - a).toNat j l,a,b,i,()))
def R_iso2:jS:=j_ 49 L_iso2 (fun x=>x) inv_iso2 O_iso2
theorem K_iso2:zU P [] 49 none (usd noU [50]) C_iso2 R_iso2:=by
 refine zT hm (cx:=[c_cless.gc]) [] (xl:=X_iso2) (α:=AuN3) (fun x=>x) (fun(_,a,_,_,j,_)=>(j - a).toNat) (fun _=>rfl) (by kernel_rfl) (by kernel_rfl) ?_ (by kernel_rfl) trivial ?_
 ·intro e S L' h
  unfold X_iso2 at h
  split at h<;>cases h<;>kernel_rfl
 ·rintro⟨l,a,b,i,j,⟨⟩⟩ hinv Q hQ
  refine zD (B_iso2 l a b i j) ?_
  obtain⟨h0,h1,h2,h3⟩:=hinv
  have hQ' : Q (.exit 2,L_iso2_0.st (usd noU [50]) (insJ ltI a (j - a).toNat j l,a,b,i,())):=hQ
  refine⟨fun c1=>?_,fun c1=>?_⟩
  ·have d1:j>a:=dcT c1
   rw[jZ (n:=j - 1) (by omega) (by omega)]
   rw[show (j - a).toNat=(j - 1 - a).toNat+1 by omega,insJ] at hQ'
   have b1:0<=j/\j<(l.length:Int):=⟨by omega,h2⟩
   have b2:j.toNat<l.length:=by omega
   have b3:0<=j - 1/\j - 1<(l.length:Int):=⟨by omega,by omega⟩
   have b4:(j - 1).toNat<l.length:=by omega
   refine⟨b1,b2,b3,b4,fun c2=>⟨b3,b4,b1,b2,b1,b2,by rw[List.length_set];exact b3,by rw[List.length_set];exact b4,?_⟩,fun c2=>?_⟩
   ·rw[if_pos (by rw[c1,show ltI (l.getD j.toNat 0) (l.getD (j - 1).toNat 0)=true from c2];rfl)] at hQ'
    refine⟨⟨⟨h0,by omega,?_,?_⟩,by show (j - 1 - a).toNat<(j - a).toNat;omega⟩,hQ'⟩
    ·rw[List.length_set,List.length_set];omega
    ·rw[List.length_set,List.length_set];exact h3
   ·rw[if_neg (by rw[show ltI (l.getD j.toNat 0) (l.getD (j - 1).toNat 0)=false from c2,Bool.and_false];decide)] at hQ'
    exact hQ'
  ·have d1:¬ j>a:=dcF c1
   rw[show (j - a).toNat=0 by omega,insJ] at hQ'
   exact hQ'
def L_iso0:Lay:={ slots:=[(0,.rowk 50 2 tI),(1,.val tI),(2,.val tI),(6,.val tI)] }
def L_iso0_0:Lay:={ slots:=[(0,.rowk 50 2 tI)] }
def X_iso0:Exit->St->Option Lay
 |.exit 0,_=>some L_iso0_0
 |_,_=>none
abbrev C_iso0:Code:=jH (zJ Tryz.f168) 0
abbrev AuN2:Type:=List Int×Int×Int×Int×Unit
theorem B_iso0(l:List Int)(a b i:Int):zF (P:=P) [] (zH [(2,R_iso2)]) [] 49 (usd noU [50]) (jI C_iso0) L_iso0 X_iso0 (α:=AuN2) (fun x=>x) (fun x=>x) (l,a,b,i,()) =
 Tree.cond (decide (i<b)) (.need (inv_iso2 (l,a,b,i,i,())) (.leaf (Sum.inl (insJ ltI a (Int.toNat (i - a)) i l,a,b,IntKind.i64.wrap (i+1),())))) (.leaf (Sum.inr (Exit.exit 0,Lay.st L_iso0_0 (usd noU [50]) (l,())))):=by kernel_rfl
def inv_iso0:AuN2->Prop:=fun(l,a,b,i,_)=>0<=a/\a<=i/\b<=l.length/\(l.length:Int)<2 ^ 62
def O_iso0:AuN2->Tree (Exit×St):=fun(l,a,b,i,_)=>.leaf (.exit 0,L_iso0_0.st (usd noU [50]) (isO ltI a (b - i).toNat i l,()))
def R_iso0:jS:=j_ 49 L_iso0 (fun x=>x) inv_iso0 O_iso0
theorem K_iso0:zU P [] 49 none (usd noU [50]) C_iso0 R_iso0:=by
 refine zT hm (cx:=[]) [(2,R_iso2)] (xl:=X_iso0) (α:=AuN2) (fun x=>x) (fun(_,_,b,i,_)=>(b - i).toNat) (fun _=>rfl) (by kernel_rfl) (by kernel_rfl) ?_ (by kernel_rfl) ⟨K_iso2,trivial⟩ ?_
 ·intro e S L' h
  unfold X_iso0 at h
  split at h<;>cases h<;>kernel_rfl
 ·rintro⟨l,a,b,i,⟨⟩⟩ hinv Q hQ
  refine zD (B_iso0 l a b i) ?_
  obtain⟨h0,h1,h2,h3⟩:=hinv
  have hQ' : Q (.exit 0,L_iso0_0.st (usd noU [50]) (isO ltI a (b - i).toNat i l,())):=hQ
  refine⟨fun c1=>?_,fun c1=>?_⟩
  ·have d1:i<b:=dcT c1
   rw[jZ (n:=i+1) (by omega) (by omega)]
   rw[show (b - i).toNat=(b - (i+1)).toNat+1 by omega,isO] at hQ'
   have hl:=insJ_len ltI a (i - a).toNat i l
   exact⟨⟨h0,h1,by omega,h3⟩,⟨⟨h0,by omega,by rw[hl];exact h2,by rw[hl];exact h3⟩,by show (b - (i+1)).toNat<(b - i).toNat;omega⟩,hQ'⟩
  ·have d1:¬ i<b:=dcF c1
   rw[show (b - i).toNat=0 by omega,isO] at hQ'
   exact hQ'
def L_iso:Lay:={ slots:=[(0,.rowk 50 2 tI),(1,.val tI),(2,.val tI)] }
theorem T_iso(l:List Int)(a b:Int):jG (P:=P) [] (zH [(0,R_iso0)]) Tryz.f168 L_iso true (l,a,b,()) =
 Tree.need (inv_iso0 (l,a,b,IntKind.i64.wrap (a+1),())) (.leaf { res:=.tup [],boxes:=[],news:=[.row 2 tI (isO ltI a (Int.toNat (b - IntKind.i64.wrap (a+1))) (IntKind.i64.wrap (a+1)) l)]++[] }):=by kernel_rfl
def c_iso:MC P:=MC.of (α:=List Int×Int×Int×Unit) 168 L_iso (fun x=>x) (fun x=>x) (fun _=>rfl)
 (fun(l,a,b,_)=>some (0<=a/\a<=b/\b<=l.length/\(l.length:Int)<2 ^ 62))
 (fun(l,a,b,_)=>⟨.tup [],[],[.row 2 tI (isO ltI a (b - (a+1)).toNat (a+1) l)]⟩) (by kernel_rfl) (by kernel_rfl) (by kernel_rfl) (by
  rintro⟨l,a,b,⟨⟩⟩ hp
  refine yG hm (own:=true) (by kernel_rfl) (by kernel_rfl) (by kernel_rfl) (T_iso l a b) ⟨K_iso0,trivial⟩ ?_
  obtain⟨h0,h1,h2,h3⟩:0<=a/\a<=b/\b<=l.length/\(l.length:Int)<2 ^ 62:=hp
  rw[jZ (n:=a+1) (by omega) (by omega)]
  exact⟨⟨h0,by omega,h2,h3⟩,rfl⟩)
def L_pdq0:Lay:={ slots:=[(0,.rowk 50 2 tI),(1,.val tI),(2,.val tI),(3,.val tI),(8,.val .bool),(9,.val .bool)] }
def L_pdq0_0:Lay:={ slots:=[(0,.rowk 50 2 tI)] }
def X_pdq0:Exit->St->Option Lay
 |.ret,_=>some L_pdq0_0
 |_,_=>none
abbrev C_pdq0:Code:=jH (zJ Tryz.f157) 0
abbrev AuN1:Type:=List Int×Int×Int×Int×Bool×Bool×Unit
theorem B_pdq0(l:List Int)(a b k:Int)(u v:Bool):zF (P:=P) [c_iso.gc] (zH []) [] 134 (usd noU [50]) (jI C_pdq0) L_pdq0 X_pdq0 (α:=AuN1) (fun x=>x) (fun x=>x) (l,a,b,k,u,v,()) =
 Tree.cond (decide (IntKind.i64.wrap (b - a)<=12)) (.need (0<=a/\a<=b/\b<=(l.length:Int)/\(l.length:Int)<2 ^ 62) (.leaf (Sum.inr (Exit.ret,Lay.st L_pdq0_0 (usd noU [50]) (isO ltI a (Int.toNat (b - (a+1))) (a+1) l,()))))) (.cond (k==0) (Tree.fail 1033) (.cond (!u) (Tree.fail 1039) (Tree.fail 1046))):=by kernel_rfl
def inv_pdq0:AuN1->Prop:=fun(l,a,b,_)=>0<=a/\a<=b/\b<=l.length/\(l.length:Int)<2 ^ 62/\b - a<=12
def O_pdq0:AuN1->Tree (Exit×St):=fun(l,a,b,_)=>.leaf (.ret,L_pdq0_0.st (usd noU [50]) (isO ltI a (b - (a+1)).toNat (a+1) l,()))
def R_pdq0:jS:=j_ 134 L_pdq0 (fun x=>x) inv_pdq0 O_pdq0
theorem K_pdq0:zU P [] 134 none (usd noU [50]) C_pdq0 R_pdq0:=by
 refine zT hm (cx:=[c_iso.gc]) [] (xl:=X_pdq0) (α:=AuN1) (fun x=>x) (fun(_,_)=>0) (fun _=>rfl) (by kernel_rfl) (by kernel_rfl) ?_ (by kernel_rfl) trivial ?_
 ·intro e S L' h
  unfold X_pdq0 at h
  split at h<;>cases h<;>kernel_rfl
 ·rintro⟨l,a,b,k,u,v,⟨⟩⟩ hinv Q hQ
  refine zD (B_pdq0 l a b k u v) ?_
  obtain⟨h0,h1,h2,h3,h4⟩:=hinv
  rw[jZ (n:=b - a) (by omega) (by omega)]
  refine⟨fun c1=>⟨⟨h0,h1,h2,h3⟩,hQ⟩,fun c1=>?_⟩
  exact absurd h4 (dcF c1)
def L_pdq:Lay:={ slots:=[(0,.rowk 50 2 tI),(1,.val tI),(2,.val tI),(3,.val tI)] }
theorem T_pdq(l:List Int)(a b k:Int):jG (P:=P) [] (zH [(0,R_pdq0)]) Tryz.f157 L_pdq true (l,a,b,k,()) =
 Tree.need (inv_pdq0 (l,a,b,k,true,true,())) (.leaf { res:=.tup [],boxes:=[],news:=[.row 2 tI (isO ltI a (Int.toNat (b - (a+1))) (a+1) l)]++[] }):=by kernel_rfl
def c_pdq:MC P:=MC.of (α:=AuN2) 157 L_pdq (fun x=>x) (fun x=>x) (fun _=>rfl)
 (fun(l,a,b,_)=>some (0<=a/\a<=b/\b<=l.length/\(l.length:Int)<2 ^ 62/\b - a<=12))
 (fun(l,a,b,_)=>⟨.tup [],[],[.row 2 tI (isO ltI a (b - (a+1)).toNat (a+1) l)]⟩) (by kernel_rfl) (by kernel_rfl) (by kernel_rfl) (by
  rintro⟨l,a,b,k,⟨⟩⟩ hp
  refine yG hm (own:=true) (by kernel_rfl) (by kernel_rfl) (by kernel_rfl) (T_pdq l a b k) ⟨K_pdq0,trivial⟩ ?_
  obtain⟨h0,h1,h2,h3,h4⟩:0<=a/\a<=b/\b<=l.length/\(l.length:Int)<2 ^ 62/\b - a<=12:=hp
  exact⟨⟨h0,h1,h2,h3,h4⟩,rfl⟩)
def L_Sort:Lay:={ slots:=[(0,.rowk 50 2 tI)] }
theorem T_Sort(l:List Int):jG (P:=P) [c_blen.gc,c_pdq.gc] (zH []) Tryz.f127 L_Sort true (l,()) =
 Tree.need (0<=IntKind.u64.wrap (l.length:Int)/\IntKind.u64.wrap (l.length:Int)<=12) (.need ((0:Int)<=0/\0<=(l.length:Int)/\(l.length:Int)<=(l.length:Int)/\(l.length:Int)<2 ^ 62/\(l.length:Int) - 0<=12) (.leaf { res:=.tup [],boxes:=[],news:=[.row 2 tI (isO ltI 0 (Int.toNat ((l.length:Int) - ((0:Int)+1))) ((0:Int)+1) l)]++[] })):=by kernel_rfl
def c_Sort:MC P:=MC.of (α:=List Int×Unit) 127 L_Sort (fun x=>x) (fun x=>x) (fun _=>rfl)
 (fun(l,_)=>some (l.length<=12))
 (fun(l,_)=>⟨.tup [],[],[.row 2 tI (isO ltI 0 ((l.length:Int) - 1).toNat 1 l)]⟩) (by kernel_rfl) (by kernel_rfl) (by kernel_rfl) (by
  rintro⟨l,⟨⟩⟩ hp
  refine yG hm (own:=true) (by kernel_rfl) (by kernel_rfl) (by kernel_rfl) (T_Sort l) trivial ?_
  have h:l.length<=12:=hp
  have e:IntKind.u64.wrap (l.length:Int)=l.length:=by rw[IntKind.wrap_u64];omega
  rw[e]
  exact⟨⟨by omega,by omega⟩,⟨by decide,by omega,by omega,by omega,by omega⟩,rfl⟩)
end
end Go.MB
