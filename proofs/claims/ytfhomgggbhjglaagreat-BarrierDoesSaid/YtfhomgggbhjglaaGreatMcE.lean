/- The reference's lapse: it is the program's. -/
import Derived.Test.YtfhomgggbhjglaaGreatMuP
namespace Go.MB
open Go Go.Sx Go.Proofs
set_option linter.unusedVariables false
set_option linter.unusedSimpArgs false
noncomputable section
def lpE(h:Hs)(t p:Int):Int:=(xF h t 4398046511104 p).1
def nxA(t:Int):Int->List E4->Int
 |n,[]=>n
 |n,e::r=>if e.2.2.2+1>t/\e.2.2.2+1<n then nxA t (e.2.2.2+1) r else nxA t n r
theorem nxA_ok(t:Int):∀(l:List E4)(n:Int),t<n->t<nxA t n l/\nxA t n l<=n/\(nxA t n l=n\/∃e∈l,nxA t n l=e.2.2.2+1)/\∀e∈l,e.2.2.2+1>t->nxA t n l<=e.2.2.2+1
 | [],n,h=>⟨h,Int.le_refl _,.inl rfl,fun e he=>by cases he⟩
 |x::r,n,h=>by
  rw[nxA]
  by_cases c:x.2.2.2+1>t/\x.2.2.2+1<n
  ·rw[if_pos c]
   obtain⟨h1,h2,h3,h4⟩:=nxA_ok t r (x.2.2.2+1) c.1
   refine⟨h1,by omega,.inr ?_,fun e he hu=>?_⟩
   ·rcases h3 with h3 |⟨e,he,h3⟩
    ·exact⟨x,List.mem_cons_self,h3⟩
    ·exact⟨e,List.mem_cons_of_mem _ he,h3⟩
   ·rcases List.mem_cons.1 he with rfl |he
    ·exact h2
    ·exact h4 e he hu
  ·rw[if_neg c]
   obtain⟨h1,h2,h3,h4⟩:=nxA_ok t r n h
   refine⟨h1,h2,h3.imp_right fun⟨e,he,h3⟩=>⟨e,List.mem_cons_of_mem _ he,h3⟩,fun e he hu=>?_⟩
   rcases List.mem_cons.1 he with rfl |he
   ·have:=fun k=>c ⟨hu,k⟩
    omega
   ·exact h4 e he hu
theorem brkS_rngE{h:Hs}{fr to press:Int}(hft:fr<=to) (hb:(xF h fr to press).2=true):fr<=(xF h fr to press).1/\(xF h fr to press).1<=to:=by
 have h1:=((brk_ok h fr to press).1 hb).1
 rcases ((tks_ok h fr to).2 _).1 h1 with q |⟨_,_,_,q⟩
 ·omega
 ·exact q
theorem lp_at{h:Hs}(he:zB h=0) {t p:Int}(ht:t<=4398046511104):(t<=lpE h t p/\lpE h t p<=4398046511104)/\lpE h t p∈zAb h t 4398046511104/\zQ h (lpE h t p) p=false/\∀x∈zAb h t 4398046511104,x<lpE h t p->zQ h x p=true:=by
 have s:=lapse_some he (press:=p) ht
 exact⟨brkS_rngE ht s,(brk_ok h t 4398046511104 p).1 s⟩
theorem lp_no{h:Hs}(he:zB h=0) {t p:Int}(ht:t<=4398046511104) (hh:zQ h t p=false):lpE h t p=t:=by
 obtain⟨a1,a2,a3,a4⟩:=lp_at he (p:=p) ht
 obtain⟨_,hm⟩:=tks_ok h t 4398046511104
 by_cases c:t<lpE h t p
 ·rw[a4 t ((hm t).2 (.inl rfl)) c] at hh;cases hh
 ·omega
theorem lp_yes{h:Hs}(he:zB h=0) {t p:Int}(ht:t<=4398046511104) (hh:zQ h t p=true):(t<nxA t 4398046511104 h.1/\nxA t 4398046511104 h.1<=4398046511104)/\lpE h t p=lpE h (nxA t 4398046511104 h.1) p:=by
 obtain⟨a1,a2,a3,a4⟩:=lp_at he (p:=p) ht
 obtain⟨_,hm⟩:=tks_ok h t 4398046511104
 have hne:lpE h t p≠t:=fun k=>by rw[k,hh] at a3;cases a3
 have hlt:t<4398046511104:=by omega
 obtain⟨n1,n2,n3,n4⟩:=nxA_ok t h.1 4398046511104 hlt
 obtain⟨b1,b2,b3,b4⟩:=lp_at he (p:=p) n2
 obtain⟨_,hm2⟩:=tks_ok h (nxA t 4398046511104 h.1) 4398046511104
 refine⟨⟨n1,n2⟩,?_⟩
 generalize lpE h t p=r1 at *
 generalize lpE h (nxA t 4398046511104 h.1) p=r2 at *
 generalize nxA t 4398046511104 h.1=n at *
 have h1:∃e∈h.1,r1=e.2.2.2+1:=by
  rcases (hm r1).1 a2 with q |⟨e,he,q,_⟩
  ·exact absurd q hne
  ·exact⟨e,he,q⟩
 have hr1:n<=r1:=by
  obtain⟨e,he,q⟩:=h1
  rw[q]
  exact n4 e he (by omega)
 have h2:r1∈zAb h n 4398046511104:=by
  obtain⟨e,he,q⟩:=h1
  exact (hm2 r1).2 (.inr ⟨e,he,q,hr1,a1.2⟩)
 have le1:¬ r1<r2:=fun k=>by rw[b4 r1 h2 k] at a3;cases a3
 have le2:¬ r2<r1:=fun k=>by
  have h3:r2∈zAb h t 4398046511104:=by
   rcases (hm2 r2).1 b2 with q |⟨e,he,q,_,_⟩
   ·rcases n3 with q2 |⟨e,he,q2⟩
    ·omega
    ·exact (hm r2).2 (.inr ⟨e,he,q.trans q2,by omega,by omega⟩)
   ·exact (hm r2).2 (.inr ⟨e,he,q,by omega,by omega⟩)
  rw[a4 r2 h3 k] at b3;cases b3
 omega
def L_lps2:Lay:={ slots:=[(2,.val tI),(3,.ptr 4041 0),(7,.val tI),(8,.val tI),(9,.val tI)],boxes:=[(4041,[.val (.sl (.pair tI tV)),.val (.sl tIs),.val tI])] }
def L_lps2_0:Lay:={ slots:=[(2,.val tI),(3,.ptr 4041 0),(8,.val tI)],boxes:=[(4041,[.val (.sl (.pair tI tV)),.val (.sl tIs),.val tI])] }
def X_lps2:Exit->St->Option Lay
 |.exit 2,_=>some L_lps2_0
 |_,_=>none
abbrev C_lps2:Code:=jH (jI (jH (zJ Tryz.f53) 0)) 2
abbrev AcE1:Type:=Int×Unit×Int×Int×Int×List (Int×V)×List (List Int)×Int×Unit
theorem B_lps2(press t n i:Int)(els:List (Int×V))(envs:List (List Int))(need:Int):zF (P:=P) [] (zH []) [] 41 noU (jI C_lps2) L_lps2 X_lps2 (α:=AcE1) (fun x=>x) (fun x=>x) (press,(),t,n,i,els,envs,need,()) =
 Tree.cond (decide (i<(els.length:Int))) (.need (0<=i/\i<(els.length:Int)) (.cond (decide (IntKind.i64.wrap ((els.getD i.toNat (0,0,0,0)).2.2.2+1)>t)) (.cond (decide (IntKind.i64.wrap ((els.getD i.toNat (0,0,0,0)).2.2.2+1)<n)) (.leaf (Sum.inl (press,(),t,IntKind.i64.wrap ((els.getD i.toNat (0,0,0,0)).2.2.2+1),IntKind.i64.wrap (i+1),els,envs,need,()))) (.leaf (Sum.inl (press,(),t,n,IntKind.i64.wrap (i+1),els,envs,need,())))) (.leaf (Sum.inl (press,(),t,n,IntKind.i64.wrap (i+1),els,envs,need,()))))) (.leaf (Sum.inr (Exit.exit 2,Lay.st L_lps2_0 noU (press,(),n,els,envs,need,())))):=by kernel_rfl
def inv_lps2:AcE1->Prop:=fun(_,_,_,_,i,els,_)=>0<=i/\i<=els.length/\els.length<=1000/\∀e∈els,elE e=0
def O_lps2:AcE1->Tree (Exit×St):=fun(press,_,t,n,i,els,envs,need,_)=>(.leaf (.exit 2,L_lps2_0.st noU (press,(),(nxA t n (els.drop i.toNat)),els,envs,need,())))
def R_lps2:jS:=j_ 41 L_lps2 (fun x=>x) inv_lps2 O_lps2
theorem K_lps2:zU P [] 41 none noU C_lps2 R_lps2:=by
 refine zT hm (cx:=[]) [] (xl:=X_lps2) (α:=AcE1) (fun x=>x) (fun(_,_,_,_,i,els,_)=>(els.length - i).toNat) (fun _=>rfl) (by kernel_rfl) (by kernel_rfl) ?_ (by kernel_rfl) trivial ?_
 ·intro e S L' h
  unfold X_lps2 at h
  split at h<;>cases h<;>kernel_rfl
 ·rintro⟨press,⟨⟩,t,n,i,els,envs,need,⟨⟩⟩ hinv Q hQ
  refine zD (B_lps2 press t n i els envs need) ?_
  obtain⟨h0,h1,h2,h3⟩:=hinv
  unfold O_lps2 at hQ
  dsimp only at hQ
  rw[jZ (n:=i+1) (by omega) (by omega)]
  refine⟨fun c1=>?_,fun c1=>?_⟩
  ·have c1:=dcT c1
   have hm:((els.length:Int) - (i+1)).toNat<((els.length:Int) - i).toNat:=by omega
   have hu:=elE_ok (h3 _ (jT (d:=(0,0,0,0)) (show i.toNat<els.length by omega)))
   rw[jZ (n:=(els.getD i.toNat (0,0,0,0)).2.2.2+1) (by omega) (by omega)]
   rw[jK (0,0,0,0) h0 c1,nxA] at hQ
   refine⟨⟨h0,c1⟩,fun c2=>⟨fun c3=>?_,fun c3=>?_⟩,fun c2=>?_⟩
   ·rw[if_pos ⟨dcT c2,dcT c3⟩] at hQ
    exact⟨⟨⟨by omega,by omega,h2,h3⟩,hm⟩,hQ⟩
   ·rw[if_neg (fun k=>dcF c3 k.2)] at hQ
    exact⟨⟨⟨by omega,by omega,h2,h3⟩,hm⟩,hQ⟩
   ·rw[if_neg (fun k=>dcF c2 k.1)] at hQ
    exact⟨⟨⟨by omega,by omega,h2,h3⟩,hm⟩,hQ⟩
  ·have c1:=dcF c1
   rw[jB c1,nxA] at hQ
   exact hQ
def L_lps0:Lay:={ slots:=[(2,.val tI),(3,.ptr 4041 0),(7,.val tI)],boxes:=[(4041,[.val (.sl (.pair tI tV)),.val (.sl tIs),.val tI])] }
def L_lps0_0:Lay:={ slots:=[(7,.val tI)] }
def X_lps0:Exit->St->Option Lay
 |.exit 0,_=>some L_lps0_0
 |_,_=>none
abbrev C_lps0:Code:=jH (zJ Tryz.f53) 0
abbrev AcE2:Type:=Int×Unit×Int×List (Int×V)×List (List Int)×Int×Unit
theorem B_lps0(press t:Int)(els:List (Int×V))(envs:List (List Int))(need:Int):zF (P:=P) [c_rHolds.gc] (zH [(2,R_lps2)]) [] 41 noU (jI C_lps0) L_lps0 X_lps0 (α:=AcE2) (fun x=>x) (fun x=>x) (press,(),t,els,envs,need,()) =
 Tree.need (zB (els,envs,need)=0) (.cond (zQ (els,envs,need) t press) (.need (inv_lps2 (press,(),t,4398046511104,0,els,envs,need,())) (.leaf (Sum.inl (press,(),nxA t 4398046511104 (List.drop (Int.toNat 0) els),els,envs,need,())))) (.leaf (Sum.inr (Exit.exit 0,Lay.st L_lps0_0 noU (t,()))))):=by kernel_rfl
def inv_lps0:AcE2->Prop:=fun(_,_,t,els,envs,need,_)=>zB (els,envs,need)=0/\0<=t/\t<=4398046511104
def O_lps0:AcE2->Tree (Exit×St):=fun(press,_,t,els,envs,need,_)=>(.leaf (.exit 0,L_lps0_0.st noU ((lpE (els,envs,need) t press),())))
def R_lps0:jS:=j_ 41 L_lps0 (fun x=>x) inv_lps0 O_lps0
theorem K_lps0:zU P [] 41 none noU C_lps0 R_lps0:=by
 refine zT hm (cx:=[c_rHolds.gc]) [(2,R_lps2)] (xl:=X_lps0) (α:=AcE2) (fun x=>x) (fun(_,_,t,_)=>(4398046511105 - t).toNat) (fun _=>rfl) (by kernel_rfl) (by kernel_rfl) ?_ (by kernel_rfl) ⟨K_lps2,trivial⟩ ?_
 ·intro e S L' h
  unfold X_lps0 at h
  split at h<;>cases h<;>kernel_rfl
 ·rintro⟨press,⟨⟩,t,els,envs,need,⟨⟩⟩ hinv Q hQ
  refine zD (B_lps0 press t els envs need) ?_
  obtain⟨h1,h2,h3⟩:=hinv
  unfold O_lps0 at hQ
  dsimp only at hQ
  have k:=yD h1
  have k10:=k.e10
  dsimp only at k10
  refine⟨h1,fun c1=>?_,fun c1=>?_⟩
  ·obtain⟨a1,a2⟩:=lp_yes h1 h3 c1
   dsimp only at a1 a2
   rw[a2] at hQ
   exact⟨⟨by omega,by omega,by omega,k.el⟩,⟨⟨h1,by show 0<=nxA t 4398046511104 els;omega,a1.2⟩,by show ((4398046511105:Int) - nxA t 4398046511104 els).toNat<((4398046511105:Int) - t).toNat;omega⟩,hQ⟩
  ·rw[lp_no h1 h3 c1] at hQ
   exact hQ
theorem T_rlapse(h_0:List (Int×V))(h_1:List (List Int))(h_2 fr press:Int):jD (P:=P) [] (zH [(0,R_lps0)]) Tryz.f53 (z_ 0 [.agg (.pair (.sl (.pair tI tV)) (.pair (.sl tIs) tI)),.val tI,.val tI] ((h_0,(h_1,h_2)),fr,press,())) =
 Tree.need (inv_lps0 (press,(),fr,h_0,h_1,h_2,())) (.leaf (.int .i64 (lpE (h_0,h_1,h_2) fr press))):=by kernel_rfl
def c_rlapse:PC P:=PC.of (α:=(List (Int×V)×(List (List Int)×Int))×Int×Int×Unit) 53 [.agg (.pair (.sl (.pair tI tV)) (.pair (.sl tIs) tI)),.val tI,.val tI] (fun x=>x) (fun x=>x) (fun _=>rfl)
 (fun x=>some (zB x.1=0/\0<=x.2.1/\x.2.1<=4398046511104))
 (fun x=>.int .i64 (lpE x.1 x.2.1 x.2.2.1)) (by kernel_rfl) (by
  rintro⟨⟨h_0,⟨h_1,h_2⟩⟩,fr,press,⟨⟩⟩ hp
  refine yK hm (by kernel_rfl) (by kernel_rfl) (T_rlapse h_0 h_1 h_2 fr press) ⟨K_lps0,trivial⟩ ?_
  try dsimp only at hp
  try dsimp only
  exact⟨hp,rfl⟩)
end
end Go.MB
