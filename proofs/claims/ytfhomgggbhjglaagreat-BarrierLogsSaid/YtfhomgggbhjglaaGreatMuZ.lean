/- An entry made of numbers; what an entry does at any site. -/
import Derived.Test.YtfhomgggbhjglaaGreatMuY
namespace Go.MB
open Go Go.Sx Go.Proofs
set_option linter.unusedVariables false
set_option linter.unusedSimpArgs false
noncomputable section
structure NumV (s:zX):Prop where
 tick:0<=s.1/\s.1<=1099511627776
 crew:1<=s.2.1/\s.2.1<=20
 hold:0<=s.2.2.1/\s.2.2.1<s.2.1
 offer:s.2.2.2.1 = -1\/(0<=s.2.2.2.1/\s.2.2.2.1<s.2.1)
 other:s.2.2.2.1≠s.2.2.1
 press:0<=s.2.2.2.2.1/\s.2.2.2.2.1<=68719476736
theorem memB_iff{c w:Int}:memB c w=true↔0<=w/\w<c:=by
 unfold memB
 rw[Bool.and_eq_true,decide_eq_true_eq,decide_eq_true_eq]
theorem badN_iff{s:zX}:badN s=false↔NumV s:=by
 unfold badN
 rw[Bool.or_eq_false_iff,Bool.or_eq_false_iff,Bool.or_eq_false_iff,Bool.or_eq_false_iff,Bool.or_eq_false_iff,Bool.or_eq_false_iff,Bool.not_eq_false',wi_iff,decide_eq_false_iff_not,decide_eq_false_iff_not,Bool.not_eq_false',memB_iff,Bool.and_eq_false_iff,Bool.not_eq_false',memB_iff,Bool.not_eq_false',wi_iff,bne_eq_false_iff_eq,beq_eq_false_iff_ne]
 constructor
 ·rintro⟨h1,h2,h3,h4,h5,h6,h7⟩
  exact⟨h1,by omega,h4,h5,h6,h7⟩
 ·rintro⟨h1,h2,h4,h5,h6,h7⟩
  exact⟨h1,by omega,by omega,h4,h5,h6,h7⟩
theorem chkS_num{s:zX}(h:chkS s=0):NumV s:=by
 unfold chkS at h
 split at h
 ·cases h
 ·rename_i c
  exact badN_iff.1 (by simpa using c)
abbrev i64(n:Int):Prop:=-9223372036854775808<=n/\n<=9223372036854775807
abbrev okN(e:zP):Prop:=i64 e.1/\i64 e.2.1/\i64 e.2.2.1/\i64 e.2.2.2.1/\i64 e.2.2.2.2.1/\i64 e.2.2.2.2.2
theorem i64_wrap(n:Int):i64 (IntKind.wrap .i64 n):=by rw[IntKind.wrap_i64];exact⟨by omega,by omega⟩
theorem i64_rn{l:List Int}{k n:Int}(h:0<=k) (h1:0<n) (h2:n<=1099511627776):i64 (rnS l k n):=by
 have:=rnS_rng (l:=l) h h1
 exact⟨by omega,by omega⟩
def ewK(l:List Int)(a:Int):List Pm->Int->Int->Int×Int
 | [],k,w=>(w,k)
 |p::r,k,w=>if p.1=a then (if rnS l k 4>0 then ewK l a r (k+1) p.2.1 else ewK l a r (k+1) w) else ewK l a r k w
theorem i64_ew(l:List Int)(a:Int):∀(p:List Pm)(k w:Int),(∀q∈p,i64 q.2.1)->i64 w->i64 (ewK l a p k w).1
 | [],k,w,_,hw=>hw
 |p::r,k,w,hp,hw=>by
  have hr:∀q∈r,i64 q.2.1:=fun q hq=>hp q (List.mem_cons_of_mem _ hq)
  rw[ewK]
  split
  ·split
   ·exact i64_ew l a r _ _ hr (hp p (List.mem_cons_self ..))
   ·exact i64_ew l a r _ _ hr hw
  ·exact i64_ew l a r _ _ hr hw
theorem ewK_rng(l:List Int)(a:Int):∀(p:List Pm)(k w:Int),k<=(ewK l a p k w).2/\(ewK l a p k w).2<=k+p.length
 | [],k,w=>by show k<=k/\k<=k+_;simp
 |p::r,k,w=>by
  rw[ewK,List.length_cons]
  split
  ·split
   ·have:=ewK_rng l a r (k+1) p.2.1;omega
   ·have:=ewK_rng l a r (k+1) w;omega
  ·have:=ewK_rng l a r k w;omega
theorem ewK_step{l:List Int}{a:Int}{p:List Pm}{i k w:Int}(h0:0<=i) (h:i<p.length):ewK l a (p.drop i.toNat) k w=if (p.getD i.toNat (0,0,0,false)).1=a then (if rnS l k 4>0 then ewK l a (p.drop (i+1).toNat) (k+1) (p.getD i.toNat (0,0,0,false)).2.1 else ewK l a (p.drop (i+1).toNat) (k+1) w) else ewK l a (p.drop (i+1).toNat) k w:=by
 rw[zS (0,0,0,false) h0 h,ewK]
theorem prm_who{s:zX}(h:chkS s=0):∀q∈s.2.2.2.2.2.2.1,0<=q.2.1/\q.2.1<s.2.1:=fun q hq=>by
 unfold chkS at h
 split at h
 ·cases h
 split at h
 ·rename_i h2;exact absurd h h2
 split at h
 ·cases h
 split at h
 ·cases h
 split at h
 ·cases h
 rename_i h3
 have k:=List.any_eq_false.1 (Bool.eq_false_iff.2 h3) q hq
 unfold prmB at k
 have k1:memB s.2.1 q.2.1=true:=by revert k;cases memB s.2.1 q.2.1<;>simp
 exact memB_iff.1 k1
def L_entw:Lay:={ slots:=[(0,.ptr 1 0),(4,.ptr 5128 0),(6,.ptr 7128 0),(7,.ptr 8128 0),(8,.val tI)],boxes:=[(1,[.val tIs,.val tI]),(5128,[.val tI,.val tI,.val tI,.val tI,.val tI,.val (.sl (.pair tI tV)),.val (.sl tIs),.val tI,.val (.sl (.pair tI (.pair tI (.pair tI .bool)))),.val tI]),(7128,[.val tI,.val tI,.val tI,.val tI,.val tI,.val tI]),(8128,[.val tI,.val tI,.val tI,.val tI,.val tI,.val tI])] }
def L_entw_0:Lay:={ slots:=[(6,.ptr 7128 0),(7,.ptr 8128 0)],boxes:=[(1,[.val tIs,.val tI]),(7128,[.val tI,.val tI,.val tI,.val tI,.val tI,.val tI]),(8128,[.val tI,.val tI,.val tI,.val tI,.val tI,.val tI])] }
def X_entw:Exit->St->Option Lay
 |.exit 1,_=>some L_entw_0
 |_,_=>none
abbrev C_entw:Code:=zQ (zJ Tryz.f14) 1
abbrev AuZ1:Type:=Unit×Unit×Unit×Unit×Int×List Int×Int×Int×Int×Int×Int×Int×List (Int×V)×List (List Int)×Int×List (Int×(Int×(Int×Bool)))×Int×Int×Int×Int×Int×Int×Int×Int×Int×Int×Int×Int×Int×Unit
theorem B_entw(i:Int)(l:List Int)(k g o t v y:Int)(u:List (Int×V))(z:List (List Int))(A:Int)(j:List (Int×(Int×(Int×Bool))))(B M N O T U W e0 e1 e2 e3 e4 e5:Int):zG (P:=P) [c_RNext.gc] (zI []) [] 128 (usd noU ([1])) (zN C_entw) L_entw X_entw (α:=AuZ1) (fun x=>x) (fun x=>x) ((),(),(),(),i,l,k,g,o,t,v,y,u,z,A,j,B,M,N,O,T,U,W,e0,e1,e2,e3,e4,e5,()) =
 Tree.cond (decide (i<(j.length:Int))) (.need (0<=i/\i<(j.length:Int)) (.cond ((j.getD i.toNat (0,0,0,false)).1==e3) (.need (0<=k/\k<1099511627776/\(0:Int)<4) (.cond (decide (rnS l k (4:Int)>0)) (.need (0<=i/\i<(j.length:Int)) (.leaf (Sum.inl ((),(),(),(),IntKind.i64.wrap (i+1),l,k+1,g,o,t,v,y,u,z,A,j,B,M,N,O,T,U,W,e0,e1,(j.getD i.toNat (0,0,0,false)).2.1,e3,e4,e5,())))) (.leaf (Sum.inl ((),(),(),(),IntKind.i64.wrap (i+1),l,k+1,g,o,t,v,y,u,z,A,j,B,M,N,O,T,U,W,e0,e1,e2,e3,e4,e5,()))))) (.leaf (Sum.inl ((),(),(),(),IntKind.i64.wrap (i+1),l,k,g,o,t,v,y,u,z,A,j,B,M,N,O,T,U,W,e0,e1,e2,e3,e4,e5,()))))) (.leaf (Sum.inr (Exit.exit 1,Lay.st L_entw_0 (usd noU [1]) ((),(),l,k,M,N,O,T,U,W,e0,e1,e2,e3,e4,e5,())))):=by kernel_rfl
def inv_entw:AuZ1->Prop:=fun(_,_,_,_,i,_,k,_,_,_,_,_,_,_,_,j,_)=>0<=i/\i<=j.length/\j.length<=1000/\0<=k/\k+j.length<=1000000000+i
def O_entw:AuZ1->Tree (Exit×St):=fun(_,_,_,_,i,l,k,_,_,_,_,_,_,_,_,j,_,M,N,O,T,U,W,e0,e1,e2,e3,e4,e5,_)=>(.leaf (.exit 1,L_entw_0.st (usd noU ([1])) ((),(),l,((ewK l e3 (j.drop i.toNat) k e2).2),M,N,O,T,U,W,e0,e1,((ewK l e3 (j.drop i.toNat) k e2).1),e3,e4,e5,())))
def R_entw:jA:=zY 128 L_entw (fun x=>x) inv_entw O_entw
theorem K_entw:zL P [] 128 none (usd noU ([1])) C_entw R_entw:=by
 refine zM hm (cx:=[c_RNext.gc]) [] (xl:=X_entw) (α:=AuZ1) (fun x=>x) (fun(_,_,_,_,i,_,_,_,_,_,_,_,_,_,_,j,_)=>(j.length - i).toNat) (fun _=>rfl) (by kernel_rfl) (by kernel_rfl) ?_ (by kernel_rfl) trivial ?_
 ·intro e S L' h
  unfold X_entw at h
  split at h<;>cases h<;>kernel_rfl
 ·rintro⟨⟨⟩,⟨⟩,⟨⟩,⟨⟩,i,l,k,g,o,t,v,y,u,z,A,j,B,M,N,O,T,U,W,e0,e1,e2,e3,e4,e5,⟨⟩⟩ hinv Q hQ
  refine zF (B_entw i l k g o t v y u z A j B M N O T U W e0 e1 e2 e3 e4 e5) ?_
  obtain⟨h0,h1,h2,h3,h4⟩:=hinv
  rw[jK (n:=i+1) (by omega) (by omega)]
  have hQ' : Q (.exit 1,L_entw_0.st (usd noU [1]) ((),(),l,(ewK l e3 (j.drop i.toNat) k e2).2,M,N,O,T,U,W,e0,e1,(ewK l e3 (j.drop i.toNat) k e2).1,e3,e4,e5,())):=hQ
  refine⟨fun c1=>?_,fun c1=>?_⟩
  ·have d1:=dcT c1
   have hm:((j.length:Int) - (i+1)).toNat<((j.length:Int) - i).toNat:=by omega
   rw[ewK_step h0 d1] at hQ'
   refine⟨⟨h0,d1⟩,⟨fun c2=>⟨⟨h3,by omega,by decide⟩,⟨fun c3=>⟨⟨h0,d1⟩,?_⟩,fun c3=>?_⟩⟩,fun c2=>?_⟩⟩
   ·rw[if_pos (eq_of_beq c2),if_pos (dcT c3)] at hQ'
    exact⟨⟨⟨by omega,by omega,h2,by omega,by omega⟩,hm⟩,hQ'⟩
   ·rw[if_pos (eq_of_beq c2),if_neg (dcF c3)] at hQ'
    exact⟨⟨⟨by omega,by omega,h2,by omega,by omega⟩,hm⟩,hQ'⟩
   ·rw[if_neg (ne_of_beq_false c2)] at hQ'
    exact⟨⟨⟨by omega,by omega,h2,by omega,by omega⟩,hm⟩,hQ'⟩
  ·rw[zR (dcF c1),ewK] at hQ'
   exact hQ'
def L_EntryOf:Lay:={ slots:=[(0,.ptr 1 0),(1,.agg tSite),(2,.val tI)],boxes:=[(1,[.val tIs,.val tI])] }
def T_EntryOf_t(g o t v y:Int)(u:List E4)(z:List (List Int))(A:Int)(j:List Pm)(B:Int)(n:Int)(l:List Int)(k:Int):Tree MOut :=
 Tree.need (0<=k/\k<1099511627776/\0<IntKind.i64.wrap (n+1)) (.need (0<=k+1/\k+1<1099511627776/\(0:Int)<10) (.need (0<=k+1+1/\k+1+1<1099511627776/\0<o) (.need (0<=k+1+1+1/\k+1+1+1<1099511627776/\(0:Int)<2) (.cond (rnS l (k+1+1+1) (2:Int)==0) (.cond (IntKind.i64.wrap (1+rnS l (k+1) 10)==1) (.need (0<=k+1+1+1+1/\k+1+1+1+1<1099511627776/\0<(u.length:Int)) (.need (0<=k+1+1+1+1+1/\k+1+1+1+1+1<1099511627776/\(0:Int)<1000) (.need (0<=k+1+1+1+1+1+1/\k+1+1+1+1+1+1<1099511627776/\(0:Int)<60) (.leaf { res:=.agg [.int .i64 (IntKind.i64.wrap (g+rnS l k (IntKind.i64.wrap (n+1)))),.int .i64 (IntKind.i64.wrap (1+rnS l (k+1) 10)),.int .i64 t,.int .i64 (rnS l (k+1+1+1+1) (u.length:Int)),.int .i64 (IntKind.i64.wrap (1+rnS l (k+1+1+1+1+1+1) 60)),.int .i64 (IntKind.i64.wrap (500+rnS l (k+1+1+1+1+1) 1000))],boxes:=[[.sl tI l,.int .i64 (k+1+1+1+1+1+1+1)]] })))) (.cond (IntKind.i64.wrap (1+rnS l (k+1) 10)==2) (.need (0<=k+1+1+1+1/\k+1+1+1+1<1099511627776/\0<(u.length:Int)) (.need (0<=k+1+1+1+1+1/\k+1+1+1+1+1<1099511627776/\(0:Int)<1000) (.need (0<=k+1+1+1+1+1+1/\k+1+1+1+1+1+1<1099511627776/\(0:Int)<60) (.leaf { res:=.agg [.int .i64 (IntKind.i64.wrap (g+rnS l k (IntKind.i64.wrap (n+1)))),.int .i64 (IntKind.i64.wrap (1+rnS l (k+1) 10)),.int .i64 t,.int .i64 (rnS l (k+1+1+1+1) (u.length:Int)),.int .i64 (IntKind.i64.wrap (1+rnS l (k+1+1+1+1+1+1) 60)),.int .i64 (IntKind.i64.wrap (500+rnS l (k+1+1+1+1+1) 1000))],boxes:=[[.sl tI l,.int .i64 (k+1+1+1+1+1+1+1)]] })))) (.cond (IntKind.i64.wrap (1+rnS l (k+1) 10)==3) (.need (0<=k+1+1+1+1/\k+1+1+1+1<1099511627776/\0<(u.length:Int)) (.need (0<=k+1+1+1+1+1/\k+1+1+1+1+1<1099511627776/\(0:Int)<1000) (.need (0<=k+1+1+1+1+1+1/\k+1+1+1+1+1+1<1099511627776/\(0:Int)<60) (.leaf { res:=.agg [.int .i64 (IntKind.i64.wrap (g+rnS l k (IntKind.i64.wrap (n+1)))),.int .i64 (IntKind.i64.wrap (1+rnS l (k+1) 10)),.int .i64 t,.int .i64 (rnS l (k+1+1+1+1) (u.length:Int)),.int .i64 (IntKind.i64.wrap (1+rnS l (k+1+1+1+1+1+1) 60)),.int .i64 (IntKind.i64.wrap (500+rnS l (k+1+1+1+1+1) 1000))],boxes:=[[.sl tI l,.int .i64 (k+1+1+1+1+1+1+1)]] })))) (.cond (IntKind.i64.wrap (1+rnS l (k+1) 10)==4) (.need (0<=k+1+1+1+1/\k+1+1+1+1<1099511627776/\0<(u.length:Int)) (.need (0<=k+1+1+1+1+1/\k+1+1+1+1+1<1099511627776/\(0:Int)<1000) (.need (0<=k+1+1+1+1+1+1/\k+1+1+1+1+1+1<1099511627776/\(0:Int)<60) (.leaf { res:=.agg [.int .i64 (IntKind.i64.wrap (g+rnS l k (IntKind.i64.wrap (n+1)))),.int .i64 (IntKind.i64.wrap (1+rnS l (k+1) 10)),.int .i64 t,.int .i64 (rnS l (k+1+1+1+1) (u.length:Int)),.int .i64 (IntKind.i64.wrap (1+rnS l (k+1+1+1+1+1+1) 60)),.int .i64 (IntKind.i64.wrap (500+rnS l (k+1+1+1+1+1) 1000))],boxes:=[[.sl tI l,.int .i64 (k+1+1+1+1+1+1+1)]] })))) (.cond (IntKind.i64.wrap (1+rnS l (k+1) 10)==5) (.need (0<=k+1+1+1+1/\k+1+1+1+1<1099511627776/\(0:Int)<1400) (.leaf { res:=.agg [.int .i64 (IntKind.i64.wrap (g+rnS l k (IntKind.i64.wrap (n+1)))),.int .i64 (IntKind.i64.wrap (1+rnS l (k+1) 10)),.int .i64 t,.int .i64 0,.int .i64 0,.int .i64 (rnS l (k+1+1+1+1) 1400)],boxes:=[[.sl tI l,.int .i64 (k+1+1+1+1+1)]] })) (.cond (IntKind.i64.wrap (1+rnS l (k+1) 10)==6) (.need (0<=k+1+1+1+1/\k+1+1+1+1<1099511627776/\0<o) (.leaf { res:=.agg [.int .i64 (IntKind.i64.wrap (g+rnS l k (IntKind.i64.wrap (n+1)))),.int .i64 (IntKind.i64.wrap (1+rnS l (k+1) 10)),.int .i64 t,.int .i64 0,.int .i64 (rnS l (k+1+1+1+1) o),.int .i64 0],boxes:=[[.sl tI l,.int .i64 (k+1+1+1+1+1)]] })) (.cond (IntKind.i64.wrap (1+rnS l (k+1) 10)==7) (.cond (decide (v>=0)) (.need (0<=k+1+1+1+1/\k+1+1+1+1<1099511627776/\(0:Int)<4) (.cond (decide (rnS l (k+1+1+1+1) (4:Int)>0)) (.leaf { res:=.agg [.int .i64 (IntKind.i64.wrap (g+rnS l k (IntKind.i64.wrap (n+1)))),.int .i64 (IntKind.i64.wrap (1+rnS l (k+1) 10)),.int .i64 v,.int .i64 0,.int .i64 0,.int .i64 0],boxes:=[[.sl tI l,.int .i64 (k+1+1+1+1+1)]] }) (.leaf { res:=.agg [.int .i64 (IntKind.i64.wrap (g+rnS l k (IntKind.i64.wrap (n+1)))),.int .i64 (IntKind.i64.wrap (1+rnS l (k+1) 10)),.int .i64 t,.int .i64 0,.int .i64 0,.int .i64 0],boxes:=[[.sl tI l,.int .i64 (k+1+1+1+1+1)]] }))) (.leaf { res:=.agg [.int .i64 (IntKind.i64.wrap (g+rnS l k (IntKind.i64.wrap (n+1)))),.int .i64 (IntKind.i64.wrap (1+rnS l (k+1) 10)),.int .i64 t,.int .i64 0,.int .i64 0,.int .i64 0],boxes:=[[.sl tI l,.int .i64 (k+1+1+1+1)]] })) (.cond (IntKind.i64.wrap (1+rnS l (k+1) 10)==8) (.need (0<=k+1+1+1+1/\k+1+1+1+1<1099511627776/\(0:Int)<4) (.need (0<=k+1+1+1+1+1/\k+1+1+1+1+1<1099511627776/\0<o) (.need (0<=k+1+1+1+1+1+1/\k+1+1+1+1+1+1<1099511627776/\(0:Int)<60) (.leaf { res:=.agg [.int .i64 (IntKind.i64.wrap (g+rnS l k (IntKind.i64.wrap (n+1)))),.int .i64 (IntKind.i64.wrap (1+rnS l (k+1) 10)),.int .i64 t,.int .i64 (rnS l (k+1+1+1+1) 4),.int .i64 (rnS l (k+1+1+1+1+1) o),.int .i64 (IntKind.i64.wrap (IntKind.i64.wrap (g+rnS l k (IntKind.i64.wrap (n+1)))+rnS l (k+1+1+1+1+1+1) 60))],boxes:=[[.sl tI l,.int .i64 (k+1+1+1+1+1+1+1)]] })))) (.cond (IntKind.i64.wrap (1+rnS l (k+1) 10)==9) (.need (0<=k+1+1+1+1/\k+1+1+1+1<1099511627776/\(0:Int)<4) (.need (inv_entw ((),(),(),(),0,l,k+1+1+1+1+1,g,o,t,v,y,u,z,A,j,B,0,0,0,0,0,0,IntKind.i64.wrap (g+rnS l k (IntKind.i64.wrap (n+1))),IntKind.i64.wrap (1+rnS l (k+1) 10),t,rnS l (k+1+1+1+1) 4,0,0,())) (.leaf { res:=.agg [.int .i64 (IntKind.i64.wrap (g+rnS l k (IntKind.i64.wrap (n+1)))),.int .i64 (IntKind.i64.wrap (1+rnS l (k+1) 10)),.int .i64 (ewK l (rnS l (k+1+1+1+1) 4) (List.drop (Int.toNat 0) j) (k+1+1+1+1+1) t).1,.int .i64 (rnS l (k+1+1+1+1) 4),.int .i64 0,.int .i64 0],boxes:=[[.sl tI l,.int .i64 (ewK l (rnS l (k+1+1+1+1) 4) (List.drop (Int.toNat 0) j) (k+1+1+1+1+1) t).2]] }))) (.cond (IntKind.i64.wrap (1+rnS l (k+1) 10)==10) (.need (0<=k+1+1+1+1/\k+1+1+1+1<1099511627776/\(0:Int)<4) (.need (inv_entw ((),(),(),(),0,l,k+1+1+1+1+1,g,o,t,v,y,u,z,A,j,B,0,0,0,0,0,0,IntKind.i64.wrap (g+rnS l k (IntKind.i64.wrap (n+1))),IntKind.i64.wrap (1+rnS l (k+1) 10),t,rnS l (k+1+1+1+1) 4,0,0,())) (.leaf { res:=.agg [.int .i64 (IntKind.i64.wrap (g+rnS l k (IntKind.i64.wrap (n+1)))),.int .i64 (IntKind.i64.wrap (1+rnS l (k+1) 10)),.int .i64 (ewK l (rnS l (k+1+1+1+1) 4) (List.drop (Int.toNat 0) j) (k+1+1+1+1+1) t).1,.int .i64 (rnS l (k+1+1+1+1) 4),.int .i64 0,.int .i64 0],boxes:=[[.sl tI l,.int .i64 (ewK l (rnS l (k+1+1+1+1) 4) (List.drop (Int.toNat 0) j) (k+1+1+1+1+1) t).2]] }))) (.leaf { res:=.agg [.int .i64 (IntKind.i64.wrap (g+rnS l k (IntKind.i64.wrap (n+1)))),.int .i64 (IntKind.i64.wrap (1+rnS l (k+1) 10)),.int .i64 t,.int .i64 0,.int .i64 0,.int .i64 0],boxes:=[[.sl tI l,.int .i64 (k+1+1+1+1)]] }))))))))))) (.cond (IntKind.i64.wrap (1+rnS l (k+1) 10)==1) (.need (0<=k+1+1+1+1/\k+1+1+1+1<1099511627776/\0<(u.length:Int)) (.need (0<=k+1+1+1+1+1/\k+1+1+1+1+1<1099511627776/\(0:Int)<1000) (.need (0<=k+1+1+1+1+1+1/\k+1+1+1+1+1+1<1099511627776/\(0:Int)<60) (.leaf { res:=.agg [.int .i64 (IntKind.i64.wrap (g+rnS l k (IntKind.i64.wrap (n+1)))),.int .i64 (IntKind.i64.wrap (1+rnS l (k+1) 10)),.int .i64 (rnS l (k+1+1) o),.int .i64 (rnS l (k+1+1+1+1) (u.length:Int)),.int .i64 (IntKind.i64.wrap (1+rnS l (k+1+1+1+1+1+1) 60)),.int .i64 (IntKind.i64.wrap (500+rnS l (k+1+1+1+1+1) 1000))],boxes:=[[.sl tI l,.int .i64 (k+1+1+1+1+1+1+1)]] })))) (.cond (IntKind.i64.wrap (1+rnS l (k+1) 10)==2) (.need (0<=k+1+1+1+1/\k+1+1+1+1<1099511627776/\0<(u.length:Int)) (.need (0<=k+1+1+1+1+1/\k+1+1+1+1+1<1099511627776/\(0:Int)<1000) (.need (0<=k+1+1+1+1+1+1/\k+1+1+1+1+1+1<1099511627776/\(0:Int)<60) (.leaf { res:=.agg [.int .i64 (IntKind.i64.wrap (g+rnS l k (IntKind.i64.wrap (n+1)))),.int .i64 (IntKind.i64.wrap (1+rnS l (k+1) 10)),.int .i64 (rnS l (k+1+1) o),.int .i64 (rnS l (k+1+1+1+1) (u.length:Int)),.int .i64 (IntKind.i64.wrap (1+rnS l (k+1+1+1+1+1+1) 60)),.int .i64 (IntKind.i64.wrap (500+rnS l (k+1+1+1+1+1) 1000))],boxes:=[[.sl tI l,.int .i64 (k+1+1+1+1+1+1+1)]] })))) (.cond (IntKind.i64.wrap (1+rnS l (k+1) 10)==3) (.need (0<=k+1+1+1+1/\k+1+1+1+1<1099511627776/\0<(u.length:Int)) (.need (0<=k+1+1+1+1+1/\k+1+1+1+1+1<1099511627776/\(0:Int)<1000) (.need (0<=k+1+1+1+1+1+1/\k+1+1+1+1+1+1<1099511627776/\(0:Int)<60) (.leaf { res:=.agg [.int .i64 (IntKind.i64.wrap (g+rnS l k (IntKind.i64.wrap (n+1)))),.int .i64 (IntKind.i64.wrap (1+rnS l (k+1) 10)),.int .i64 (rnS l (k+1+1) o),.int .i64 (rnS l (k+1+1+1+1) (u.length:Int)),.int .i64 (IntKind.i64.wrap (1+rnS l (k+1+1+1+1+1+1) 60)),.int .i64 (IntKind.i64.wrap (500+rnS l (k+1+1+1+1+1) 1000))],boxes:=[[.sl tI l,.int .i64 (k+1+1+1+1+1+1+1)]] })))) (.cond (IntKind.i64.wrap (1+rnS l (k+1) 10)==4) (.need (0<=k+1+1+1+1/\k+1+1+1+1<1099511627776/\0<(u.length:Int)) (.need (0<=k+1+1+1+1+1/\k+1+1+1+1+1<1099511627776/\(0:Int)<1000) (.need (0<=k+1+1+1+1+1+1/\k+1+1+1+1+1+1<1099511627776/\(0:Int)<60) (.leaf { res:=.agg [.int .i64 (IntKind.i64.wrap (g+rnS l k (IntKind.i64.wrap (n+1)))),.int .i64 (IntKind.i64.wrap (1+rnS l (k+1) 10)),.int .i64 (rnS l (k+1+1) o),.int .i64 (rnS l (k+1+1+1+1) (u.length:Int)),.int .i64 (IntKind.i64.wrap (1+rnS l (k+1+1+1+1+1+1) 60)),.int .i64 (IntKind.i64.wrap (500+rnS l (k+1+1+1+1+1) 1000))],boxes:=[[.sl tI l,.int .i64 (k+1+1+1+1+1+1+1)]] })))) (.cond (IntKind.i64.wrap (1+rnS l (k+1) 10)==5) (.need (0<=k+1+1+1+1/\k+1+1+1+1<1099511627776/\(0:Int)<1400) (.leaf { res:=.agg [.int .i64 (IntKind.i64.wrap (g+rnS l k (IntKind.i64.wrap (n+1)))),.int .i64 (IntKind.i64.wrap (1+rnS l (k+1) 10)),.int .i64 (rnS l (k+1+1) o),.int .i64 0,.int .i64 0,.int .i64 (rnS l (k+1+1+1+1) 1400)],boxes:=[[.sl tI l,.int .i64 (k+1+1+1+1+1)]] })) (.cond (IntKind.i64.wrap (1+rnS l (k+1) 10)==6) (.need (0<=k+1+1+1+1/\k+1+1+1+1<1099511627776/\0<o) (.leaf { res:=.agg [.int .i64 (IntKind.i64.wrap (g+rnS l k (IntKind.i64.wrap (n+1)))),.int .i64 (IntKind.i64.wrap (1+rnS l (k+1) 10)),.int .i64 (rnS l (k+1+1) o),.int .i64 0,.int .i64 (rnS l (k+1+1+1+1) o),.int .i64 0],boxes:=[[.sl tI l,.int .i64 (k+1+1+1+1+1)]] })) (.cond (IntKind.i64.wrap (1+rnS l (k+1) 10)==7) (.cond (decide (v>=0)) (.need (0<=k+1+1+1+1/\k+1+1+1+1<1099511627776/\(0:Int)<4) (.cond (decide (rnS l (k+1+1+1+1) (4:Int)>0)) (.leaf { res:=.agg [.int .i64 (IntKind.i64.wrap (g+rnS l k (IntKind.i64.wrap (n+1)))),.int .i64 (IntKind.i64.wrap (1+rnS l (k+1) 10)),.int .i64 v,.int .i64 0,.int .i64 0,.int .i64 0],boxes:=[[.sl tI l,.int .i64 (k+1+1+1+1+1)]] }) (.leaf { res:=.agg [.int .i64 (IntKind.i64.wrap (g+rnS l k (IntKind.i64.wrap (n+1)))),.int .i64 (IntKind.i64.wrap (1+rnS l (k+1) 10)),.int .i64 (rnS l (k+1+1) o),.int .i64 0,.int .i64 0,.int .i64 0],boxes:=[[.sl tI l,.int .i64 (k+1+1+1+1+1)]] }))) (.leaf { res:=.agg [.int .i64 (IntKind.i64.wrap (g+rnS l k (IntKind.i64.wrap (n+1)))),.int .i64 (IntKind.i64.wrap (1+rnS l (k+1) 10)),.int .i64 (rnS l (k+1+1) o),.int .i64 0,.int .i64 0,.int .i64 0],boxes:=[[.sl tI l,.int .i64 (k+1+1+1+1)]] })) (.cond (IntKind.i64.wrap (1+rnS l (k+1) 10)==8) (.need (0<=k+1+1+1+1/\k+1+1+1+1<1099511627776/\(0:Int)<4) (.need (0<=k+1+1+1+1+1/\k+1+1+1+1+1<1099511627776/\0<o) (.need (0<=k+1+1+1+1+1+1/\k+1+1+1+1+1+1<1099511627776/\(0:Int)<60) (.leaf { res:=.agg [.int .i64 (IntKind.i64.wrap (g+rnS l k (IntKind.i64.wrap (n+1)))),.int .i64 (IntKind.i64.wrap (1+rnS l (k+1) 10)),.int .i64 (rnS l (k+1+1) o),.int .i64 (rnS l (k+1+1+1+1) 4),.int .i64 (rnS l (k+1+1+1+1+1) o),.int .i64 (IntKind.i64.wrap (IntKind.i64.wrap (g+rnS l k (IntKind.i64.wrap (n+1)))+rnS l (k+1+1+1+1+1+1) 60))],boxes:=[[.sl tI l,.int .i64 (k+1+1+1+1+1+1+1)]] })))) (.cond (IntKind.i64.wrap (1+rnS l (k+1) 10)==9) (.need (0<=k+1+1+1+1/\k+1+1+1+1<1099511627776/\(0:Int)<4) (.need (inv_entw ((),(),(),(),0,l,k+1+1+1+1+1,g,o,t,v,y,u,z,A,j,B,0,0,0,0,0,0,IntKind.i64.wrap (g+rnS l k (IntKind.i64.wrap (n+1))),IntKind.i64.wrap (1+rnS l (k+1) 10),rnS l (k+1+1) o,rnS l (k+1+1+1+1) 4,0,0,())) (.leaf { res:=.agg [.int .i64 (IntKind.i64.wrap (g+rnS l k (IntKind.i64.wrap (n+1)))),.int .i64 (IntKind.i64.wrap (1+rnS l (k+1) 10)),.int .i64 (ewK l (rnS l (k+1+1+1+1) 4) (List.drop (Int.toNat 0) j) (k+1+1+1+1+1) (rnS l (k+1+1) o)).1,.int .i64 (rnS l (k+1+1+1+1) 4),.int .i64 0,.int .i64 0],boxes:=[[.sl tI l,.int .i64 (ewK l (rnS l (k+1+1+1+1) 4) (List.drop (Int.toNat 0) j) (k+1+1+1+1+1) (rnS l (k+1+1) o)).2]] }))) (.cond (IntKind.i64.wrap (1+rnS l (k+1) 10)==10) (.need (0<=k+1+1+1+1/\k+1+1+1+1<1099511627776/\(0:Int)<4) (.need (inv_entw ((),(),(),(),0,l,k+1+1+1+1+1,g,o,t,v,y,u,z,A,j,B,0,0,0,0,0,0,IntKind.i64.wrap (g+rnS l k (IntKind.i64.wrap (n+1))),IntKind.i64.wrap (1+rnS l (k+1) 10),rnS l (k+1+1) o,rnS l (k+1+1+1+1) 4,0,0,())) (.leaf { res:=.agg [.int .i64 (IntKind.i64.wrap (g+rnS l k (IntKind.i64.wrap (n+1)))),.int .i64 (IntKind.i64.wrap (1+rnS l (k+1) 10)),.int .i64 (ewK l (rnS l (k+1+1+1+1) 4) (List.drop (Int.toNat 0) j) (k+1+1+1+1+1) (rnS l (k+1+1) o)).1,.int .i64 (rnS l (k+1+1+1+1) 4),.int .i64 0,.int .i64 0],boxes:=[[.sl tI l,.int .i64 (ewK l (rnS l (k+1+1+1+1) 4) (List.drop (Int.toNat 0) j) (k+1+1+1+1+1) (rnS l (k+1+1) o)).2]] }))) (.leaf { res:=.agg [.int .i64 (IntKind.i64.wrap (g+rnS l k (IntKind.i64.wrap (n+1)))),.int .i64 (IntKind.i64.wrap (1+rnS l (k+1) 10)),.int .i64 (rnS l (k+1+1) o),.int .i64 0,.int .i64 0,.int .i64 0],boxes:=[[.sl tI l,.int .i64 (k+1+1+1+1)]] })))))))))))))))
theorem T_EntryOf(g o t v y:Int)(u:List E4)(z:List (List Int))(A:Int)(j:List Pm)(B:Int)(n:Int)(l:List Int)(k:Int):jF (P:=P) [c_RNext.gc] (zI [(1,R_entw)]) Tryz.f14 L_EntryOf false ((),(g,o,t,v,y,(u,z,A),j,B),n,l,k,())=T_EntryOf_t g o t v y u z A j B n l k:=by kernel_rfl
abbrev AuZ2:Type:=Unit×zX×Int×List Int×Int×Unit
def pr_EntryOf:AuZ2->Prop:=fun(_,s,n,_,k,_)=>SiteV s/\0<=n/\n<=1000/\0<=k/\k<=900000000
def N_EntryOf:AuZ2->zP×Int->MOut:=fun(_,s,n,l,k,_) b=>⟨.agg [.int .i64 b.1.1,.int .i64 b.1.2.1,.int .i64 b.1.2.2.1,.int .i64 b.1.2.2.2.1,.int .i64 b.1.2.2.2.2.1,.int .i64 b.1.2.2.2.2.2],[[.sl tI l,.int .i64 b.2]],[]⟩
def Z_EntryOf:AuZ2->zP×Int->Prop:=fun(_,s,n,l,k,_) b=>k<=b.2/\b.2<=k+100/\okN b.1
theorem X_EntryOf:∃f:AuZ2->zP×Int,∀a,pr_EntryOf a->(fun a b=>MFnOk P 14 L_EntryOf a (N_EntryOf a b)/\Z_EntryOf a b) a (f a):=by
 refine choose_val (α:=AuZ2) (β:=zP×Int) (pr:=pr_EntryOf) (R:=fun a b=>MFnOk P 14 L_EntryOf a (N_EntryOf a b)/\Z_EntryOf a b) ?_
 rintro⟨⟨⟩,⟨g,o,t,v,y,⟨u,z,A⟩,j,B⟩,n,l,k,⟨⟩⟩ hp
 have key:(T_EntryOf_t g o t v y u z A j B n l k).holds (fun s=>∃b,s=N_EntryOf ((),(g,o,t,v,y,(u,z,A),j,B),n,l,k,()) b/\Z_EntryOf ((),(g,o,t,v,y,(u,z,A),j,B),n,l,k,()) b):=by
  unfold T_EntryOf_t
  obtain⟨hs,n0,n1,k0,k1⟩:SiteV (g,o,t,v,y,(u,z,A),j,B)/\0<=n/\n<=1000/\0<=k/\k<=900000000:=hp
  have hn:=(chkS_num hs.ok).crew
  have hl:j.length<=16:=hs.l4
  have he:1<=u.length:=(houseE_ok (chkS_house hs.ok)).e1
  dsimp only at hn
  rw[jK (n:=n+1) (by omega) (by omega)]
  have hw:∀a kk w,kk<=(ewK l a (List.drop (Int.toNat 0) j) kk w).2/\(ewK l a (List.drop (Int.toNat 0) j) kk w).2<=kk+16:=fun a kk w=>by
   have h:=ewK_rng l a (List.drop (Int.toNat 0) j) kk w
   rw[show List.drop (Int.toNat 0) j=j from rfl] at h ⊢
   omega
  have w1:=hw (rnS l (k+1+1+1+1) 4) (k+1+1+1+1+1) t
  have w2:=hw (rnS l (k+1+1+1+1) 4) (k+1+1+1+1+1) (rnS l (k+1+1) o)
  have hinv:∀q0 q1 q2 q3 q4 q5 a0 a1 a2 a3 a4 a5,inv_entw ((),(),(),(),0,l,k+1+1+1+1+1,g,o,t,v,y,u,z,A,j,B,q0,q1,q2,q3,q4,q5,a0,a1,a2,a3,a4,a5,()):=fun _ _ _ _ _ _ _ _ _ _ _ _=>⟨by decide,by omega,by omega,by omega,by omega⟩
  have fin:∀e0 e1 e2 e3 e4 e5 k' : Int,k<=k'->k'<=k+100->okN (e0,e1,e2,e3,e4,e5)->∃b,(⟨.agg [.int .i64 e0,.int .i64 e1,.int .i64 e2,.int .i64 e3,.int .i64 e4,.int .i64 e5],[[.sl tI l,.int .i64 k']],[]⟩:MOut)=N_EntryOf ((),(g,o,t,v,y,(u,z,A),j,B),n,l,k,()) b/\Z_EntryOf ((),(g,o,t,v,y,(u,z,A),j,B),n,l,k,()) b :=
   fun e0 e1 e2 e3 e4 e5 k' h1 h2 h3=>⟨((e0,e1,e2,e3,e4,e5),k'),rfl,h1,h2,h3⟩
  clear hw
  have g0:i64 0:=by decide
  have g2:i64 t:=by
   have:=(chkS_num hs.ok).hold
   dsimp only at this
   exact⟨by omega,by omega⟩
  have g3:i64 v:=by
   have:=(chkS_num hs.ok).offer
   dsimp only at this
   exact⟨by omega,by omega⟩
  have gr:∀kk m:Int,0<=kk->0<m->m<=1099511627776->i64 (rnS l kk m):=fun kk m a b c=>i64_rn a b c
  have gp:∀q∈j,i64 q.2.1:=fun q hq=>by
   have:=prm_who hs.ok q hq
   dsimp only at this
   exact⟨by omega,by omega⟩
  have ge:∀(a kk w:Int),i64 w->i64 (ewK l a (List.drop (Int.toNat 0) j) kk w).1:=fun a kk w h=>i64_ew l a _ kk w gp h
  have l10:u.length<=10:=hs.l1
  repeat' (first
   |exact fin _ _ _ _ _ _ _ (by omega) (by omega) ⟨i64_wrap _,i64_wrap _,by
     first
      |exact g2
      |exact g3
      |exact gr _ _ (by omega) (by omega) (by omega)
      |exact ge _ _ _ g2
      |exact ge _ _ _ (gr _ _ (by omega) (by omega) (by omega)),by
     first
      |exact g0
      |exact gr _ _ (by omega) (by omega) (by omega),by
     first
      |exact g0
      |exact i64_wrap _
      |exact gr _ _ (by omega) (by omega) (by omega),by
     first
      |exact g0
      |exact i64_wrap _
      |exact gr _ _ (by omega) (by omega) (by omega)⟩
   |refine⟨⟨by omega,by omega,by omega⟩,?_⟩
   |refine⟨hinv _ _ _ _ _ _ _ _ _ _ _ _,?_⟩
   |refine⟨fun _=>?_,fun _=>?_⟩)
 obtain⟨s,⟨b,hs,hb⟩,h⟩:=m_rel hm (own:=false) (by kernel_rfl) (by kernel_rfl) (by kernel_rfl) (T_EntryOf g o t v y u z A j B n l k) ⟨K_entw,trivial⟩ key
 subst hs
 exact⟨b,h,hb⟩
def V_EntryOf:AuZ2->zP×Int:=Classical.choose X_EntryOf
theorem S_EntryOf:∀a,pr_EntryOf a->Z_EntryOf a (V_EntryOf a):=fun a h=>((Classical.choose_spec X_EntryOf) a h).2
def c_EntryOf:MC P:=MC.of (α:=AuZ2) 14 L_EntryOf (fun x=>x) (fun x=>x) (fun _=>rfl) (fun a=>some (pr_EntryOf a)) (fun a=>N_EntryOf a (V_EntryOf a)) (by kernel_rfl) (by kernel_rfl) (by kernel_rfl) (fun a h=>((Classical.choose_spec X_EntryOf) a h).1)
def dS(s:zX)(e:zP):zX×Int:=if chkS s≠0 then (zSite,chkS s) else doG s e
theorem dS_ok{s:zX}{e:zP}(h:chkS s=0):dS s e=doG s e:=if_neg (fun k=>k h)
theorem T_DoX(G H I J K:Int)(D:List (Int×V))(E:List (List Int))(F:Int)(C:List (Int×(Int×(Int×Bool))))(L E0 E1 E2 E3 E4 E5:Int):zU (P:=P) [c_Check.gc,c_doX.gc] (zI []) Tryz.f16 (jM 0 [.agg (.pair tI (.pair tI (.pair tI (.pair tI (.pair tI (.pair (.pair (.sl (.pair tI tV)) (.pair (.sl tIs) tI)) (.pair (.sl (.pair tI (.pair tI (.pair tI .bool)))) tI))))))),.agg (.pair tI (.pair tI (.pair tI tV)))] ((G,(H,(I,(J,(K,((D,(E,F)),(C,L))))))),(E0,(E1,(E2,(E3,(E4,E5))))),())) =
 Tree.need (sOk (G,H,I,J,K,(D,E,F),C,L)) (.cond (chkS (G,H,I,J,K,(D,E,F),C,L) != 0) (.leaf (.tup [.agg [.int .i64 0,.int .i64 0,.int .i64 0,.int .i64 0,.int .i64 0,.nils,.nils,.int .i64 0,.nils,.int .i64 0],.int .i64 (chkS (G,H,I,J,K,(D,E,F),C,L))])) (.need (sOk (G,H,I,J,K,(D,E,F),C,L)/\zE (D,E,F)=0/\C.length<=900) (.leaf (.tup [.agg [.int .i64 (doG (G,H,I,J,K,(D,E,F),C,L) (E0,E1,E2,E3,E4,E5)).1.1,.int .i64 (doG (G,H,I,J,K,(D,E,F),C,L) (E0,E1,E2,E3,E4,E5)).1.2.1,.int .i64 (doG (G,H,I,J,K,(D,E,F),C,L) (E0,E1,E2,E3,E4,E5)).1.2.2.1,.int .i64 (doG (G,H,I,J,K,(D,E,F),C,L) (E0,E1,E2,E3,E4,E5)).1.2.2.2.1,.int .i64 (doG (G,H,I,J,K,(D,E,F),C,L) (E0,E1,E2,E3,E4,E5)).1.2.2.2.2.1,.sl (Ty.pair tI (Ty.pair tI (Ty.pair tI tI))) (doG (G,H,I,J,K,(D,E,F),C,L) (E0,E1,E2,E3,E4,E5)).1.2.2.2.2.2.1.1,.sl (Ty.sl tI) (doG (G,H,I,J,K,(D,E,F),C,L) (E0,E1,E2,E3,E4,E5)).1.2.2.2.2.2.1.2.1,.int .i64 (doG (G,H,I,J,K,(D,E,F),C,L) (E0,E1,E2,E3,E4,E5)).1.2.2.2.2.2.1.2.2,.sl (Ty.pair tI (Ty.pair tI (Ty.pair tI Ty.bool))) (doG (G,H,I,J,K,(D,E,F),C,L) (E0,E1,E2,E3,E4,E5)).1.2.2.2.2.2.2.1,.int .i64 (doG (G,H,I,J,K,(D,E,F),C,L) (E0,E1,E2,E3,E4,E5)).1.2.2.2.2.2.2.2],.int .i64 (doG (G,H,I,J,K,(D,E,F),C,L) (E0,E1,E2,E3,E4,E5)).2])))):=by kernel_rfl
def c_DoX:PC P:=PC.of (α:=(Int×(Int×(Int×(Int×(Int×((List (Int×V)×(List (List Int)×Int))×(List (Int×(Int×(Int×Bool)))×Int)))))))×(Int×(Int×(Int×V)))×Unit) 16 [.agg (.pair tI (.pair tI (.pair tI (.pair tI (.pair tI (.pair (.pair (.sl (.pair tI tV)) (.pair (.sl tIs) tI)) (.pair (.sl (.pair tI (.pair tI (.pair tI .bool)))) tI))))))),.agg (.pair tI (.pair tI (.pair tI tV)))] (fun x=>x) (fun x=>x) (fun _=>rfl)
 (fun x=>some (sOk x.1/\x.1.2.2.2.2.2.2.1.length<=900))
 (fun x=>resG (dS x.1 x.2.1)) (by kernel_rfl) (by
  rintro⟨⟨G,⟨H,⟨I,⟨J,⟨K,⟨⟨D,⟨E,F⟩⟩,⟨C,L⟩⟩⟩⟩⟩⟩⟩,⟨E0,⟨E1,⟨E2,⟨E3,⟨E4,E5⟩⟩⟩⟩⟩,⟨⟩⟩ hp
  refine fn_le hm (by kernel_rfl) (by kernel_rfl) (T_DoX G H I J K D E F C L E0 E1 E2 E3 E4 E5) trivial (by kernel_rfl) ?_
  try dsimp only at hp
  try dsimp only
  obtain⟨hs,hl⟩:sOk (G,H,I,J,K,(D,E,F),C,L)/\C.length<=900:=hp
  unfold dS
  refine⟨hs,⟨fun c=>?_,fun c=>⟨⟨hs,?_,hl⟩,?_⟩⟩⟩
  ·have d:=bneT c
   rw[if_pos d]
   exact leS_bad _
  ·exact chkS_house (bneF c)
  ·have d:=bneF c
   rw[if_neg (fun k=>k d)]
   exact leS_good _)
end
end Go.MB
