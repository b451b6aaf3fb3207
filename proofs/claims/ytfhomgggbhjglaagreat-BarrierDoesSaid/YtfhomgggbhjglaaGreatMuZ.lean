/- An entry made of numbers; what an entry does at any site. -/
import Derived.Test.YtfhomgggbhjglaaGreatMuY
namespace Go.MB
open Go Go.Sx Go.Proofs
set_option linter.unusedVariables false
set_option linter.unusedSimpArgs false
noncomputable section
structure NumV (s:zE):Prop where
 tick:0<=s.1/\s.1<=1099511627776
 crew:1<=s.2.1/\s.2.1<=20
 hold:0<=s.2.2.1/\s.2.2.1<s.2.1
 offer:s.2.2.2.1 = -1\/(0<=s.2.2.2.1/\s.2.2.2.1<s.2.1)
 other:s.2.2.2.1≠s.2.2.1
 press:0<=s.2.2.2.2.1/\s.2.2.2.2.1<=68719476736
theorem kQ{c w:Int}:vB c w=true↔0<=w/\w<c:=by
 unfold vB
 rw[Bool.and_eq_true,decide_eq_true_eq,decide_eq_true_eq]
theorem badN_iff{s:zE}:xW s=false↔NumV s:=by
 unfold xW
 rw[Bool.or_eq_false_iff,Bool.or_eq_false_iff,Bool.or_eq_false_iff,Bool.or_eq_false_iff,Bool.or_eq_false_iff,Bool.or_eq_false_iff,Bool.not_eq_false',qZ,decide_eq_false_iff_not,decide_eq_false_iff_not,Bool.not_eq_false',kQ,Bool.and_eq_false_iff,Bool.not_eq_false',kQ,Bool.not_eq_false',qZ,bne_eq_false_iff_eq,beq_eq_false_iff_ne]
 constructor
 ·rintro⟨h1,h2,h3,h4,h5,h6,h7⟩
  exact⟨h1,by omega,h4,h5,h6,h7⟩
 ·rintro⟨h1,h2,h4,h5,h6,h7⟩
  exact⟨h1,by omega,by omega,h4,h5,h6,h7⟩
theorem chkS_num{s:zE}(h:vY s=0):NumV s:=by
 unfold vY at h
 split at h
 ·cases h
 ·rename_i c
  exact badN_iff.1 (by simpa using c)
abbrev i64(n:Int):Prop:=-9223372036854775808<=n/\n<=9223372036854775807
abbrev okN(e:zN):Prop:=i64 e.1/\i64 e.2.1/\i64 e.2.2.1/\i64 e.2.2.2.1/\i64 e.2.2.2.2.1/\i64 e.2.2.2.2.2
theorem i64_wrap(n:Int):i64 (IntKind.wrap .i64 n):=by rw[IntKind.wrap_i64];exact⟨by omega,by omega⟩
theorem i64_rn{l:List Int}{k n:Int}(h:0<=k) (h1:0<n) (h2:n<=1099511627776):i64 (rnS l k n):=by
 have:=vA (l:=l) h h1
 exact⟨by omega,by omega⟩
def ewK(l:List Int)(a:Int):List Pm->Int->Int->Int×Int
 | [],k,w=>(w,k)
 |p::r,k,w=>if p.1=a then (if rnS l k 4>0 then ewK l a r (k+1) p.2.1 else ewK l a r (k+1) w) else ewK l a r k w
theorem i64_ew(l:List Int)(a:Int):∀(p:List Pm)(k w:Int),(∀q∈p,i64 q.2.1)->i64 w->i64 (ewK l a p k w).1
 | [],k,w,_,hw=>hw
 |p::r,k,w,hp,hw=>by
  have hr:∀q∈r,i64 q.2.1:=fun q hq=>hp q (List.mem_cons_of_mem _ hq)
  rw[ewK]
  split
  ·split
   ·exact i64_ew l a r _ _ hr (hp p (List.mem_cons_self ..))
   ·exact i64_ew l a r _ _ hr hw
  ·exact i64_ew l a r _ _ hr hw
theorem ewK_rng(l:List Int)(a:Int):∀(p:List Pm)(k w:Int),k<=(ewK l a p k w).2/\(ewK l a p k w).2<=k+p.length
 | [],k,w=>by show k<=k/\k<=k+_;simp
 |p::r,k,w=>by
  rw[ewK,List.length_cons]
  split
  ·split
   ·have:=ewK_rng l a r (k+1) p.2.1;omega
   ·have:=ewK_rng l a r (k+1) w;omega
  ·have:=ewK_rng l a r k w;omega
theorem ewK_step{l:List Int}{a:Int}{p:List Pm}{i k w:Int}(h0:0<=i) (h:i<p.length):ewK l a (p.drop i.toNat) k w=if (p.getD i.toNat (0,0,0,false)).1=a then (if rnS l k 4>0 then ewK l a (p.drop (i+1).toNat) (k+1) (p.getD i.toNat (0,0,0,false)).2.1 else ewK l a (p.drop (i+1).toNat) (k+1) w) else ewK l a (p.drop (i+1).toNat) k w:=by
 rw[jK (0,0,0,false) h0 h,ewK]
theorem prm_who{s:zE}(h:vY s=0):∀q∈s.2.2.2.2.2.2.1,0<=q.2.1/\q.2.1<s.2.1:=fun q hq=>by
 unfold vY at h
 split at h
 ·cases h
 split at h
 ·rename_i h2;exact absurd h h2
 split at h
 ·cases h
 split at h
 ·cases h
 split at h
 ·cases h
 rename_i h3
 have k:=List.any_eq_false.1 (Bool.eq_false_iff.2 h3) q hq
 unfold qQ at k
 have k1:vB s.2.1 q.2.1=true:=by revert k;cases vB s.2.1 q.2.1<;>simp
 exact kQ.1 k1
def L_entw:Lay:={ slots:=[(0,.ptr 1 0),(4,.ptr 5128 0),(6,.ptr 7128 0),(7,.ptr 8128 0),(8,.val tI)],boxes:=[(1,[.val tIs,.val tI]),(5128,[.val tI,.val tI,.val tI,.val tI,.val tI,.val (.sl (.pair tI tV)),.val (.sl tIs),.val tI,.val (.sl (.pair tI (.pair tI (.pair tI .bool)))),.val tI]),(7128,[.val tI,.val tI,.val tI,.val tI,.val tI,.val tI]),(8128,[.val tI,.val tI,.val tI,.val tI,.val tI,.val tI])] }
def L_entw_0:Lay:={ slots:=[(6,.ptr 7128 0),(7,.ptr 8128 0)],boxes:=[(1,[.val tIs,.val tI]),(7128,[.val tI,.val tI,.val tI,.val tI,.val tI,.val tI]),(8128,[.val tI,.val tI,.val tI,.val tI,.val tI,.val tI])] }
def X_entw:Exit->St->Option Lay
 |.exit 1,_=>some L_entw_0
 |_,_=>none
abbrev C_entw:Code:=jH (zJ Tryz.f14) 1
abbrev AuZ1:Type:=Unit×Unit×Unit×Unit×Int×List Int×Int×Int×Int×Int×Int×Int×List (Int×V)×List (List Int)×Int×List (Int×(Int×(Int×Bool)))×Int×Int×Int×Int×Int×Int×Int×Int×Int×Int×Int×Int×Int×Unit
theorem B_entw(i:Int)(l:List Int)(k d j o u v:Int)(t:List (Int×V))(y:List (List Int))(z:Int)(g:List (Int×(Int×(Int×Bool))))(A B C D E F G e0 e1 e2 e3 e4 e5:Int):zF (P:=P) [xM.gc] (zH []) [] 128 (usd noU ([1])) (jI C_entw) L_entw X_entw (α:=AuZ1) (fun x=>x) (fun x=>x) ((),(),(),(),i,l,k,d,j,o,u,v,t,y,z,g,A,B,C,D,E,F,G,e0,e1,e2,e3,e4,e5,()) =
 Tree.cond (decide (i<(g.length:Int))) (.need (0<=i/\i<(g.length:Int)) (.cond ((g.getD i.toNat (0,0,0,false)).1==e3) (.need (0<=k/\k<1099511627776/\(0:Int)<4) (.cond (decide (rnS l k (4:Int)>0)) (.need (0<=i/\i<(g.length:Int)) (.leaf (Sum.inl ((),(),(),(),IntKind.i64.wrap (i+1),l,k+1,d,j,o,u,v,t,y,z,g,A,B,C,D,E,F,G,e0,e1,(g.getD i.toNat (0,0,0,false)).2.1,e3,e4,e5,())))) (.leaf (Sum.inl ((),(),(),(),IntKind.i64.wrap (i+1),l,k+1,d,j,o,u,v,t,y,z,g,A,B,C,D,E,F,G,e0,e1,e2,e3,e4,e5,()))))) (.leaf (Sum.inl ((),(),(),(),IntKind.i64.wrap (i+1),l,k,d,j,o,u,v,t,y,z,g,A,B,C,D,E,F,G,e0,e1,e2,e3,e4,e5,()))))) (.leaf (Sum.inr (Exit.exit 1,Lay.st L_entw_0 (usd noU [1]) ((),(),l,k,B,C,D,E,F,G,e0,e1,e2,e3,e4,e5,())))):=by kernel_rfl
def inv_entw:AuZ1->Prop:=fun(_,_,_,_,i,_,k,_,_,_,_,_,_,_,_,g,_)=>0<=i/\i<=g.length/\g.length<=1000/\0<=k/\k+g.length<=1000000000+i
def O_entw:AuZ1->Tree (Exit×St):=fun(_,_,_,_,i,l,k,_,_,_,_,_,_,_,_,g,_,B,C,D,E,F,G,e0,e1,e2,e3,e4,e5,_)=>(.leaf (.exit 1,L_entw_0.st (usd noU ([1])) ((),(),l,((ewK l e3 (g.drop i.toNat) k e2).2),B,C,D,E,F,G,e0,e1,((ewK l e3 (g.drop i.toNat) k e2).1),e3,e4,e5,())))
def R_entw:jS:=j_ 128 L_entw (fun x=>x) inv_entw O_entw
theorem K_entw:zU P [] 128 none (usd noU ([1])) C_entw R_entw:=by
 refine zT hm (cx:=[xM.gc]) [] (xl:=X_entw) (α:=AuZ1) (fun x=>x) (fun(_,_,_,_,i,_,_,_,_,_,_,_,_,_,_,g,_)=>(g.length - i).toNat) (fun _=>rfl) (by kernel_rfl) (by kernel_rfl) ?_ (by kernel_rfl) trivial ?_
 ·intro e S L' h
  unfold X_entw at h
  split at h<;>cases h<;>kernel_rfl
 ·rintro⟨⟨⟩,⟨⟩,⟨⟩,⟨⟩,i,l,k,d,j,o,u,v,t,y,z,g,A,B,C,D,E,F,G,e0,e1,e2,e3,e4,e5,⟨⟩⟩ hinv Q hQ
  refine zD (B_entw i l k d j o u v t y z g A B C D E F G e0 e1 e2 e3 e4 e5) ?_
  obtain⟨h0,h1,h2,h3,h4⟩:=hinv
  rw[jZ (n:=i+1) (by omega) (by omega)]
  have hQ' : Q (.exit 1,L_entw_0.st (usd noU [1]) ((),(),l,(ewK l e3 (g.drop i.toNat) k e2).2,B,C,D,E,F,G,e0,e1,(ewK l e3 (g.drop i.toNat) k e2).1,e3,e4,e5,())):=hQ
  refine⟨fun c1=>?_,fun c1=>?_⟩
  ·have d1:=dcT c1
   have hm:((g.length:Int) - (i+1)).toNat<((g.length:Int) - i).toNat:=by omega
   rw[ewK_step h0 d1] at hQ'
   refine⟨⟨h0,d1⟩,⟨fun c2=>⟨⟨h3,by omega,by decide⟩,⟨fun c3=>⟨⟨h0,d1⟩,?_⟩,fun c3=>?_⟩⟩,fun c2=>?_⟩⟩
   ·rw[if_pos (eq_of_beq c2),if_pos (dcT c3)] at hQ'
    exact⟨⟨⟨by omega,by omega,h2,by omega,by omega⟩,hm⟩,hQ'⟩
   ·rw[if_pos (eq_of_beq c2),if_neg (dcF c3)] at hQ'
    exact⟨⟨⟨by omega,by omega,h2,by omega,by omega⟩,hm⟩,hQ'⟩
   ·rw[if_neg (ne_of_beq_false c2)] at hQ'
    exact⟨⟨⟨by omega,by omega,h2,by omega,by omega⟩,hm⟩,hQ'⟩
  ·rw[jB (dcF c1),ewK] at hQ'
   exact hQ'
def L_EntryOf:Lay:={ slots:=[(0,.ptr 1 0),(1,.agg zR),(2,.val tI)],boxes:=[(1,[.val tIs,.val tI])] }
def T_EntryOf_t(d j o u v:Int)(t:List E4)(y:List (List Int))(z:Int)(g:List Pm)(A:Int)(n:Int)(l:List Int)(k:Int):Tree MOut :=
 Tree.need (0<=k/\k<1099511627776/\0<IntKind.i64.wrap (n+1)) (.need (0<=k+1/\k+1<1099511627776/\(0:Int)<10) (.need (0<=k+1+1/\k+1+1<1099511627776/\0<j) (.need (0<=k+1+1+1/\k+1+1+1<1099511627776/\(0:Int)<2) (.cond (rnS l (k+1+1+1) (2:Int)==0) (.cond (IntKind.i64.wrap (1+rnS l (k+1) 10)==1) (.need (0<=k+1+1+1+1/\k+1+1+1+1<1099511627776/\0<(t.length:Int)) (.need (0<=k+1+1+1+1+1/\k+1+1+1+1+1<1099511627776/\(0:Int)<1000) (.need (0<=k+1+1+1+1+1+1/\k+1+1+1+1+1+1<1099511627776/\(0:Int)<60) (.leaf { res:=.agg [.int .i64 (IntKind.i64.wrap (d+rnS l k (IntKind.i64.wrap (n+1)))),.int .i64 (IntKind.i64.wrap (1+rnS l (k+1) 10)),.int .i64 o,.int .i64 (rnS l (k+1+1+1+1) (t.length:Int)),.int .i64 (IntKind.i64.wrap (1+rnS l (k+1+1+1+1+1+1) 60)),.int .i64 (IntKind.i64.wrap (500+rnS l (k+1+1+1+1+1) 1000))],boxes:=[[.sl tI l,.int .i64 (k+1+1+1+1+1+1+1)]] })))) (.cond (IntKind.i64.wrap (1+rnS l (k+1) 10)==2) (.need (0<=k+1+1+1+1/\k+1+1+1+1<1099511627776/\0<(t.length:Int)) (.need (0<=k+1+1+1+1+1/\k+1+1+1+1+1<1099511627776/\(0:Int)<1000) (.need (0<=k+1+1+1+1+1+1/\k+1+1+1+1+1+1<1099511627776/\(0:Int)<60) (.leaf { res:=.agg [.int .i64 (IntKind.i64.wrap (d+rnS l k (IntKind.i64.wrap (n+1)))),.int .i64 (IntKind.i64.wrap (1+rnS l (k+1) 10)),.int .i64 o,.int .i64 (rnS l (k+1+1+1+1) (t.length:Int)),.int .i64 (IntKind.i64.wrap (1+rnS l (k+1+1+1+1+1+1) 60)),.int .i64 (IntKind.i64.wrap (500+rnS l (k+1+1+1+1+1) 1000))],boxes:=[[.sl tI l,.int .i64 (k+1+1+1+1+1+1+1)]] })))) (.cond (IntKind.i64.wrap (1+rnS l (k+1) 10)==3) (.need (0<=k+1+1+1+1/\k+1+1+1+1<1099511627776/\0<(t.length:Int)) (.need (0<=k+1+1+1+1+1/\k+1+1+1+1+1<1099511627776/\(0:Int)<1000) (.need (0<=k+1+1+1+1+1+1/\k+1+1+1+1+1+1<1099511627776/\(0:Int)<60) (.leaf { res:=.agg [.int .i64 (IntKind.i64.wrap (d+rnS l k (IntKind.i64.wrap (n+1)))),.int .i64 (IntKind.i64.wrap (1+rnS l (k+1) 10)),.int .i64 o,.int .i64 (rnS l (k+1+1+1+1) (t.length:Int)),.int .i64 (IntKind.i64.wrap (1+rnS l (k+1+1+1+1+1+1) 60)),.int .i64 (IntKind.i64.wrap (500+rnS l (k+1+1+1+1+1) 1000))],boxes:=[[.sl tI l,.int .i64 (k+1+1+1+1+1+1+1)]] })))) (.cond (IntKind.i64.wrap (1+rnS l (k+1) 10)==4) (.need (0<=k+1+1+1+1/\k+1+1+1+1<1099511627776/\0<(t.length:Int)) (.need (0<=k+1+1+1+1+1/\k+1+1+1+1+1<1099511627776/\(0:Int)<1000) (.need (0<=k+1+1+1+1+1+1/\k+1+1+1+1+1+1<1099511627776/\(0:Int)<60) (.leaf { res:=.agg [.int .i64 (IntKind.i64.wrap (d+rnS l k (IntKind.i64.wrap (n+1)))),.int .i64 (IntKind.i64.wrap (1+rnS l (k+1) 10)),.int .i64 o,.int .i64 (rnS l (k+1+1+1+1) (t.length:Int)),.int .i64 (IntKind.i64.wrap (1+rnS l (k+1+1+1+1+1+1) 60)),.int .i64 (IntKind.i64.wrap (500+rnS l (k+1+1+1+1+1) 1000))],boxes:=[[.sl tI l,.int .i64 (k+1+1+1+1+1+1+1)]] })))) (.cond (IntKind.i64.wrap (1+rnS l (k+1) 10)==5) (.need (0<=k+1+1+1+1/\k+1+1+1+1<1099511627776/\(0:Int)<1400) (.leaf { res:=.agg [.int .i64 (IntKind.i64.wrap (d+rnS l k (IntKind.i64.wrap (n+1)))),.int .i64 (IntKind.i64.wrap (1+rnS l (k+1) 10)),.int .i64 o,.int .i64 0,.int .i64 0,.int .i64 (rnS l (k+1+1+1+1) 1400)],boxes:=[[.sl tI l,.int .i64 (k+1+1+1+1+1)]] })) (.cond (IntKind.i64.wrap (1+rnS l (k+1) 10)==6) (.need (0<=k+1+1+1+1/\k+1+1+1+1<1099511627776/\0<j) (.leaf { res:=.agg [.int .i64 (IntKind.i64.wrap (d+rnS l k (IntKind.i64.wrap (n+1)))),.int .i64 (IntKind.i64.wrap (1+rnS l (k+1) 10)),.int .i64 o,.int .i64 0,.int .i64 (rnS l (k+1+1+1+1) j),.int .i64 0],boxes:=[[.sl tI l,.int .i64 (k+1+1+1+1+1)]] })) (.cond (IntKind.i64.wrap (1+rnS l (k+1) 10)==7) (.cond (decide (u>=0)) (.need (0<=k+1+1+1+1/\k+1+1+1+1<1099511627776/\(0:Int)<4) (.cond (decide (rnS l (k+1+1+1+1) (4:Int)>0)) (.leaf { res:=.agg [.int .i64 (IntKind.i64.wrap (d+rnS l k (IntKind.i64.wrap (n+1)))),.int .i64 (IntKind.i64.wrap (1+rnS l (k+1) 10)),.int .i64 u,.int .i64 0,.int .i64 0,.int .i64 0],boxes:=[[.sl tI l,.int .i64 (k+1+1+1+1+1)]] }) (.leaf { res:=.agg [.int .i64 (IntKind.i64.wrap (d+rnS l k (IntKind.i64.wrap (n+1)))),.int .i64 (IntKind.i64.wrap (1+rnS l (k+1) 10)),.int .i64 o,.int .i64 0,.int .i64 0,.int .i64 0],boxes:=[[.sl tI l,.int .i64 (k+1+1+1+1+1)]] }))) (.leaf { res:=.agg [.int .i64 (IntKind.i64.wrap (d+rnS l k (IntKind.i64.wrap (n+1)))),.int .i64 (IntKind.i64.wrap (1+rnS l (k+1) 10)),.int .i64 o,.int .i64 0,.int .i64 0,.int .i64 0],boxes:=[[.sl tI l,.int .i64 (k+1+1+1+1)]] })) (.cond (IntKind.i64.wrap (1+rnS l (k+1) 10)==8) (.need (0<=k+1+1+1+1/\k+1+1+1+1<1099511627776/\(0:Int)<4) (.need (0<=k+1+1+1+1+1/\k+1+1+1+1+1<1099511627776/\0<j) (.need (0<=k+1+1+1+1+1+1/\k+1+1+1+1+1+1<1099511627776/\(0:Int)<60) (.leaf { res:=.agg [.int .i64 (IntKind.i64.wrap (d+rnS l k (IntKind.i64.wrap (n+1)))),.int .i64 (IntKind.i64.wrap (1+rnS l (k+1) 10)),.int .i64 o,.int .i64 (rnS l (k+1+1+1+1) 4),.int .i64 (rnS l (k+1+1+1+1+1) j),.int .i64 (IntKind.i64.wrap (IntKind.i64.wrap (d+rnS l k (IntKind.i64.wrap (n+1)))+rnS l (k+1+1+1+1+1+1) 60))],boxes:=[[.sl tI l,.int .i64 (k+1+1+1+1+1+1+1)]] })))) (.cond (IntKind.i64.wrap (1+rnS l (k+1) 10)==9) (.need (0<=k+1+1+1+1/\k+1+1+1+1<1099511627776/\(0:Int)<4) (.need (inv_entw ((),(),(),(),0,l,k+1+1+1+1+1,d,j,o,u,v,t,y,z,g,A,0,0,0,0,0,0,IntKind.i64.wrap (d+rnS l k (IntKind.i64.wrap (n+1))),IntKind.i64.wrap (1+rnS l (k+1) 10),o,rnS l (k+1+1+1+1) 4,0,0,())) (.leaf { res:=.agg [.int .i64 (IntKind.i64.wrap (d+rnS l k (IntKind.i64.wrap (n+1)))),.int .i64 (IntKind.i64.wrap (1+rnS l (k+1) 10)),.int .i64 (ewK l (rnS l (k+1+1+1+1) 4) (List.drop (Int.toNat 0) g) (k+1+1+1+1+1) o).1,.int .i64 (rnS l (k+1+1+1+1) 4),.int .i64 0,.int .i64 0],boxes:=[[.sl tI l,.int .i64 (ewK l (rnS l (k+1+1+1+1) 4) (List.drop (Int.toNat 0) g) (k+1+1+1+1+1) o).2]] }))) (.cond (IntKind.i64.wrap (1+rnS l (k+1) 10)==10) (.need (0<=k+1+1+1+1/\k+1+1+1+1<1099511627776/\(0:Int)<4) (.need (inv_entw ((),(),(),(),0,l,k+1+1+1+1+1,d,j,o,u,v,t,y,z,g,A,0,0,0,0,0,0,IntKind.i64.wrap (d+rnS l k (IntKind.i64.wrap (n+1))),IntKind.i64.wrap (1+rnS l (k+1) 10),o,rnS l (k+1+1+1+1) 4,0,0,())) (.leaf { res:=.agg [.int .i64 (IntKind.i64.wrap (d+rnS l k (IntKind.i64.wrap (n+1)))),.int .i64 (IntKind.i64.wrap (1+rnS l (k+1) 10)),.int .i64 (ewK l (rnS l (k+1+1+1+1) 4) (List.drop (Int.toNat 0) g) (k+1+1+1+1+1) o).1,.int .i64 (rnS l (k+1+1+1+1) 4),.int .i64 0,.int .i64 0],boxes:=[[.sl tI l,.int .i64 (ewK l (rnS l (k+1+1+1+1) 4) (List.drop (Int.toNat 0) g) (k+1+1+1+1+1) o).2]] }))) (.leaf { res:=.agg [.int .i64 (IntKind.i64.wrap (d+rnS l k (IntKind.i64.wrap (n+1)))),.int .i64 (IntKind.i64.wrap (1+rnS l (k+1) 10)),.int .i64 o,.int .i64 0,.int .i64 0,.int .i64 0],boxes:=[[.sl tI l,.int .i64 (k+1+1+1+1)]] }))))))))))) (.cond (IntKind.i64.wrap (1+rnS l (k+1) 10)==1) (.need (0<=k+1+1+1+1/\k+1+1+1+1<1099511627776/\0<(t.length:Int)) (.need (0<=k+1+1+1+1+1/\k+1+1+1+1+1<1099511627776/\(0:Int)<1000) (.need (0<=k+1+1+1+1+1+1/\k+1+1+1+1+1+1<1099511627776/\(0:Int)<60) (.leaf { res:=.agg [.int .i64 (IntKind.i64.wrap (d+rnS l k (IntKind.i64.wrap (n+1)))),.int .i64 (IntKind.i64.wrap (1+rnS l (k+1) 10)),.int .i64 (rnS l (k+1+1) j),.int .i64 (rnS l (k+1+1+1+1) (t.length:Int)),.int .i64 (IntKind.i64.wrap (1+rnS l (k+1+1+1+1+1+1) 60)),.int .i64 (IntKind.i64.wrap (500+rnS l (k+1+1+1+1+1) 1000))],boxes:=[[.sl tI l,.int .i64 (k+1+1+1+1+1+1+1)]] })))) (.cond (IntKind.i64.wrap (1+rnS l (k+1) 10)==2) (.need (0<=k+1+1+1+1/\k+1+1+1+1<1099511627776/\0<(t.length:Int)) (.need (0<=k+1+1+1+1+1/\k+1+1+1+1+1<1099511627776/\(0:Int)<1000) (.need (0<=k+1+1+1+1+1+1/\k+1+1+1+1+1+1<1099511627776/\(0:Int)<60) (.leaf { res:=.agg [.int .i64 (IntKind.i64.wrap (d+rnS l k (IntKind.i64.wrap (n+1)))),.int .i64 (IntKind.i64.wrap (1+rnS l (k+1) 10)),.int .i64 (rnS l (k+1+1) j),.int .i64 (rnS l (k+1+1+1+1) (t.length:Int)),.int .i64 (IntKind.i64.wrap (1+rnS l (k+1+1+1+1+1+1) 60)),.int .i64 (IntKind.i64.wrap (500+rnS l (k+1+1+1+1+1) 1000))],boxes:=[[.sl tI l,.int .i64 (k+1+1+1+1+1+1+1)]] })))) (.cond (IntKind.i64.wrap (1+rnS l (k+1) 10)==3) (.need (0<=k+1+1+1+1/\k+1+1+1+1<1099511627776/\0<(t.length:Int)) (.need (0<=k+1+1+1+1+1/\k+1+1+1+1+1<1099511627776/\(0:Int)<1000) (.need (0<=k+1+1+1+1+1+1/\k+1+1+1+1+1+1<1099511627776/\(0:Int)<60) (.leaf { res:=.agg [.int .i64 (IntKind.i64.wrap (d+rnS l k (IntKind.i64.wrap (n+1)))),.int .i64 (IntKind.i64.wrap (1+rnS l (k+1) 10)),.int .i64 (rnS l (k+1+1) j),.int .i64 (rnS l (k+1+1+1+1) (t.length:Int)),.int .i64 (IntKind.i64.wrap (1+rnS l (k+1+1+1+1+1+1) 60)),.int .i64 (IntKind.i64.wrap (500+rnS l (k+1+1+1+1+1) 1000))],boxes:=[[.sl tI l,.int .i64 (k+1+1+1+1+1+1+1)]] })))) (.cond (IntKind.i64.wrap (1+rnS l (k+1) 10)==4) (.need (0<=k+1+1+1+1/\k+1+1+1+1<1099511627776/\0<(t.length:Int)) (.need (0<=k+1+1+1+1+1/\k+1+1+1+1+1<1099511627776/\(0:Int)<1000) (.need (0<=k+1+1+1+1+1+1/\k+1+1+1+1+1+1<1099511627776/\(0:Int)<60) (.leaf { res:=.agg [.int .i64 (IntKind.i64.wrap (d+rnS l k (IntKind.i64.wrap (n+1)))),.int .i64 (IntKind.i64.wrap (1+rnS l (k+1) 10)),.int .i64 (rnS l (k+1+1) j),.int .i64 (rnS l (k+1+1+1+1) (t.length:Int)),.int .i64 (IntKind.i64.wrap (1+rnS l (k+1+1+1+1+1+1) 60)),.int .i64 (IntKind.i64.wrap (500+rnS l (k+1+1+1+1+1) 1000))],boxes:=[[.sl tI l,.int .i64 (k+1+1+1+1+1+1+1)]] })))) (.cond (IntKind.i64.wrap (1+rnS l (k+1) 10)==5) (.need (0<=k+1+1+1+1/\k+1+1+1+1<1099511627776/\(0:Int)<1400) (.leaf { res:=.agg [.int .i64 (IntKind.i64.wrap (d+rnS l k (IntKind.i64.wrap (n+1)))),.int .i64 (IntKind.i64.wrap (1+rnS l (k+1) 10)),.int .i64 (rnS l (k+1+1) j),.int .i64 0,.int .i64 0,.int .i64 (rnS l (k+1+1+1+1) 1400)],boxes:=[[.sl tI l,.int .i64 (k+1+1+1+1+1)]] })) (.cond (IntKind.i64.wrap (1+rnS l (k+1) 10)==6) (.need (0<=k+1+1+1+1/\k+1+1+1+1<1099511627776/\0<j) (.leaf { res:=.agg [.int .i64 (IntKind.i64.wrap (d+rnS l k (IntKind.i64.wrap (n+1)))),.int .i64 (IntKind.i64.wrap (1+rnS l (k+1) 10)),.int .i64 (rnS l (k+1+1) j),.int .i64 0,.int .i64 (rnS l (k+1+1+1+1) j),.int .i64 0],boxes:=[[.sl tI l,.int .i64 (k+1+1+1+1+1)]] })) (.cond (IntKind.i64.wrap (1+rnS l (k+1) 10)==7) (.cond (decide (u>=0)) (.need (0<=k+1+1+1+1/\k+1+1+1+1<1099511627776/\(0:Int)<4) (.cond (decide (rnS l (k+1+1+1+1) (4:Int)>0)) (.leaf { res:=.agg [.int .i64 (IntKind.i64.wrap (d+rnS l k (IntKind.i64.wrap (n+1)))),.int .i64 (IntKind.i64.wrap (1+rnS l (k+1) 10)),.int .i64 u,.int .i64 0,.int .i64 0,.int .i64 0],boxes:=[[.sl tI l,.int .i64 (k+1+1+1+1+1)]] }) (.leaf { res:=.agg [.int .i64 (IntKind.i64.wrap (d+rnS l k (IntKind.i64.wrap (n+1)))),.int .i64 (IntKind.i64.wrap (1+rnS l (k+1) 10)),.int .i64 (rnS l (k+1+1) j),.int .i64 0,.int .i64 0,.int .i64 0],boxes:=[[.sl tI l,.int .i64 (k+1+1+1+1+1)]] }))) (.leaf { res:=.agg [.int .i64 (IntKind.i64.wrap (d+rnS l k (IntKind.i64.wrap (n+1)))),.int .i64 (IntKind.i64.wrap (1+rnS l (k+1) 10)),.int .i64 (rnS l (k+1+1) j),.int .i64 0,.int .i64 0,.int .i64 0],boxes:=[[.sl tI l,.int .i64 (k+1+1+1+1)]] })) (.cond (IntKind.i64.wrap (1+rnS l (k+1) 10)==8) (.need (0<=k+1+1+1+1/\k+1+1+1+1<1099511627776/\(0:Int)<4) (.need (0<=k+1+1+1+1+1/\k+1+1+1+1+1<1099511627776/\0<j) (.need (0<=k+1+1+1+1+1+1/\k+1+1+1+1+1+1<1099511627776/\(0:Int)<60) (.leaf { res:=.agg [.int .i64 (IntKind.i64.wrap (d+rnS l k (IntKind.i64.wrap (n+1)))),.int .i64 (IntKind.i64.wrap (1+rnS l (k+1) 10)),.int .i64 (rnS l (k+1+1) j),.int .i64 (rnS l (k+1+1+1+1) 4),.int .i64 (rnS l (k+1+1+1+1+1) j),.int .i64 (IntKind.i64.wrap (IntKind.i64.wrap (d+rnS l k (IntKind.i64.wrap (n+1)))+rnS l (k+1+1+1+1+1+1) 60))],boxes:=[[.sl tI l,.int .i64 (k+1+1+1+1+1+1+1)]] })))) (.cond (IntKind.i64.wrap (1+rnS l (k+1) 10)==9) (.need (0<=k+1+1+1+1/\k+1+1+1+1<1099511627776/\(0:Int)<4) (.need (inv_entw ((),(),(),(),0,l,k+1+1+1+1+1,d,j,o,u,v,t,y,z,g,A,0,0,0,0,0,0,IntKind.i64.wrap (d+rnS l k (IntKind.i64.wrap (n+1))),IntKind.i64.wrap (1+rnS l (k+1) 10),rnS l (k+1+1) j,rnS l (k+1+1+1+1) 4,0,0,())) (.leaf { res:=.agg [.int .i64 (IntKind.i64.wrap (d+rnS l k (IntKind.i64.wrap (n+1)))),.int .i64 (IntKind.i64.wrap (1+rnS l (k+1) 10)),.int .i64 (ewK l (rnS l (k+1+1+1+1) 4) (List.drop (Int.toNat 0) g) (k+1+1+1+1+1) (rnS l (k+1+1) j)).1,.int .i64 (rnS l (k+1+1+1+1) 4),.int .i64 0,.int .i64 0],boxes:=[[.sl tI l,.int .i64 (ewK l (rnS l (k+1+1+1+1) 4) (List.drop (Int.toNat 0) g) (k+1+1+1+1+1) (rnS l (k+1+1) j)).2]] }))) (.cond (IntKind.i64.wrap (1+rnS l (k+1) 10)==10) (.need (0<=k+1+1+1+1/\k+1+1+1+1<1099511627776/\(0:Int)<4) (.need (inv_entw ((),(),(),(),0,l,k+1+1+1+1+1,d,j,o,u,v,t,y,z,g,A,0,0,0,0,0,0,IntKind.i64.wrap (d+rnS l k (IntKind.i64.wrap (n+1))),IntKind.i64.wrap (1+rnS l (k+1) 10),rnS l (k+1+1) j,rnS l (k+1+1+1+1) 4,0,0,())) (.leaf { res:=.agg [.int .i64 (IntKind.i64.wrap (d+rnS l k (IntKind.i64.wrap (n+1)))),.int .i64 (IntKind.i64.wrap (1+rnS l (k+1) 10)),.int .i64 (ewK l (rnS l (k+1+1+1+1) 4) (List.drop (Int.toNat 0) g) (k+1+1+1+1+1) (rnS l (k+1+1) j)).1,.int .i64 (rnS l (k+1+1+1+1) 4),.int .i64 0,.int .i64 0],boxes:=[[.sl tI l,.int .i64 (ewK l (rnS l (k+1+1+1+1) 4) (List.drop (Int.toNat 0) g) (k+1+1+1+1+1) (rnS l (k+1+1) j)).2]] }))) (.leaf { res:=.agg [.int .i64 (IntKind.i64.wrap (d+rnS l k (IntKind.i64.wrap (n+1)))),.int .i64 (IntKind.i64.wrap (1+rnS l (k+1) 10)),.int .i64 (rnS l (k+1+1) j),.int .i64 0,.int .i64 0,.int .i64 0],boxes:=[[.sl tI l,.int .i64 (k+1+1+1+1)]] })))))))))))))))
theorem T_EntryOf(d j o u v:Int)(t:List E4)(y:List (List Int))(z:Int)(g:List Pm)(A:Int)(n:Int)(l:List Int)(k:Int):jG (P:=P) [xM.gc] (zH [(1,R_entw)]) Tryz.f14 L_EntryOf false ((),(d,j,o,u,v,(t,y,z),g,A),n,l,k,())=T_EntryOf_t d j o u v t y z g A n l k:=by kernel_rfl
abbrev AuZ2:Type:=Unit×zE×Int×List Int×Int×Unit
def xA:AuZ2->Prop:=fun(_,s,n,_,k,_)=>SiteV s/\0<=n/\n<=1000/\0<=k/\k<=900000000
def N_EntryOf:AuZ2->zN×Int->MOut:=fun(_,s,n,l,k,_) b=>⟨.agg [.int .i64 b.1.1,.int .i64 b.1.2.1,.int .i64 b.1.2.2.1,.int .i64 b.1.2.2.2.1,.int .i64 b.1.2.2.2.2.1,.int .i64 b.1.2.2.2.2.2],[[.sl tI l,.int .i64 b.2]],[]⟩
def Z_EntryOf:AuZ2->zN×Int->Prop:=fun(_,s,n,l,k,_) b=>k<=b.2/\b.2<=k+100/\okN b.1
theorem X_EntryOf:∃f:AuZ2->zN×Int,∀a,xA a->(fun a b=>qV P 14 L_EntryOf a (N_EntryOf a b)/\Z_EntryOf a b) a (f a):=by
 refine choose_val (α:=AuZ2) (β:=zN×Int) (pr:=xA) (R:=fun a b=>qV P 14 L_EntryOf a (N_EntryOf a b)/\Z_EntryOf a b) ?_
 rintro⟨⟨⟩,⟨d,j,o,u,v,⟨t,y,z⟩,g,A⟩,n,l,k,⟨⟩⟩ hp
 have key:(T_EntryOf_t d j o u v t y z g A n l k).holds (fun s=>∃b,s=N_EntryOf ((),(d,j,o,u,v,(t,y,z),g,A),n,l,k,()) b/\Z_EntryOf ((),(d,j,o,u,v,(t,y,z),g,A),n,l,k,()) b):=by
  unfold T_EntryOf_t
  obtain⟨hs,n0,n1,k0,k1⟩:SiteV (d,j,o,u,v,(t,y,z),g,A)/\0<=n/\n<=1000/\0<=k/\k<=900000000:=hp
  have hn:=(chkS_num hs.ok).crew
  have hl:g.length<=16:=hs.l4
  have he:1<=t.length:=(yD (fC hs.ok)).e1
  dsimp only at hn
  rw[jZ (n:=n+1) (by omega) (by omega)]
  have hw:∀a kk w,kk<=(ewK l a (List.drop (Int.toNat 0) g) kk w).2/\(ewK l a (List.drop (Int.toNat 0) g) kk w).2<=kk+16:=fun a kk w=>by
   have h:=ewK_rng l a (List.drop (Int.toNat 0) g) kk w
   rw[show List.drop (Int.toNat 0) g=g from rfl] at h ⊢
   omega
  have w1:=hw (rnS l (k+1+1+1+1) 4) (k+1+1+1+1+1) o
  have w2:=hw (rnS l (k+1+1+1+1) 4) (k+1+1+1+1+1) (rnS l (k+1+1) j)
  have hinv:∀q0 q1 q2 q3 q4 q5 a0 a1 a2 a3 a4 a5,inv_entw ((),(),(),(),0,l,k+1+1+1+1+1,d,j,o,u,v,t,y,z,g,A,q0,q1,q2,q3,q4,q5,a0,a1,a2,a3,a4,a5,()):=fun _ _ _ _ _ _ _ _ _ _ _ _=>⟨by decide,by omega,by omega,by omega,by omega⟩
  have fin:∀e0 e1 e2 e3 e4 e5 k' : Int,k<=k'->k'<=k+100->okN (e0,e1,e2,e3,e4,e5)->∃b,(⟨.agg [.int .i64 e0,.int .i64 e1,.int .i64 e2,.int .i64 e3,.int .i64 e4,.int .i64 e5],[[.sl tI l,.int .i64 k']],[]⟩:MOut)=N_EntryOf ((),(d,j,o,u,v,(t,y,z),g,A),n,l,k,()) b/\Z_EntryOf ((),(d,j,o,u,v,(t,y,z),g,A),n,l,k,()) b :=
   fun e0 e1 e2 e3 e4 e5 k' h1 h2 h3=>⟨((e0,e1,e2,e3,e4,e5),k'),rfl,h1,h2,h3⟩
  clear hw
  have g0:i64 0:=by decide
  have g2:i64 o:=by
   have:=(chkS_num hs.ok).hold
   dsimp only at this
   exact⟨by omega,by omega⟩
  have g3:i64 u:=by
   have:=(chkS_num hs.ok).offer
   dsimp only at this
   exact⟨by omega,by omega⟩
  have gr:∀kk m:Int,0<=kk->0<m->m<=1099511627776->i64 (rnS l kk m):=fun kk m a b c=>i64_rn a b c
  have gp:∀q∈g,i64 q.2.1:=fun q hq=>by
   have:=prm_who hs.ok q hq
   dsimp only at this
   exact⟨by omega,by omega⟩
  have ge:∀(a kk w:Int),i64 w->i64 (ewK l a (List.drop (Int.toNat 0) g) kk w).1:=fun a kk w h=>i64_ew l a _ kk w gp h
  have l10:t.length<=10:=hs.l1
  repeat' (first
   |exact fin _ _ _ _ _ _ _ (by omega) (by omega) ⟨i64_wrap _,i64_wrap _,by
     first
      |exact g2
      |exact g3
      |exact gr _ _ (by omega) (by omega) (by omega)
      |exact ge _ _ _ g2
      |exact ge _ _ _ (gr _ _ (by omega) (by omega) (by omega)),by
     first
      |exact g0
      |exact gr _ _ (by omega) (by omega) (by omega),by
     first
      |exact g0
      |exact i64_wrap _
      |exact gr _ _ (by omega) (by omega) (by omega),by
     first
      |exact g0
      |exact i64_wrap _
      |exact gr _ _ (by omega) (by omega) (by omega)⟩
   |refine⟨⟨by omega,by omega,by omega⟩,?_⟩
   |refine⟨hinv _ _ _ _ _ _ _ _ _ _ _ _,?_⟩
   |refine⟨fun _=>?_,fun _=>?_⟩)
 obtain⟨s,⟨b,hs,hb⟩,h⟩:=m_rel hm (own:=false) (by kernel_rfl) (by kernel_rfl) (by kernel_rfl) (T_EntryOf d j o u v t y z g A n l k) ⟨K_entw,trivial⟩ key
 subst hs
 exact⟨b,h,hb⟩
def pI:AuZ2->zN×Int:=Classical.choose X_EntryOf
theorem S_EntryOf:∀a,xA a->Z_EntryOf a (pI a):=fun a h=>((Classical.choose_spec X_EntryOf) a h).2
def c_EntryOf:MC P:=MC.of (α:=AuZ2) 14 L_EntryOf (fun x=>x) (fun x=>x) (fun _=>rfl) (fun a=>some (xA a)) (fun a=>N_EntryOf a (pI a)) (by kernel_rfl) (by kernel_rfl) (by kernel_rfl) (fun a h=>((Classical.choose_spec X_EntryOf) a h).1)
def dS(s:zE)(e:zN):zE×Int:=if vY s≠0 then (qJ,vY s) else doG s e
theorem dS_ok{s:zE}{e:zN}(h:vY s=0):dS s e=doG s e:=if_neg (fun k=>k h)
end
end Go.MB
