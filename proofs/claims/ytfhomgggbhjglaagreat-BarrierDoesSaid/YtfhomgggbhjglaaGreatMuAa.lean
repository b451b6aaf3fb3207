/- Entries keep a site valid: the plain law. -/
import Derived.Test.YtfhomgggbhjglaaGreatMuZ
import Derived.Test.YtfhomgggbhjglaaGreatMuP
namespace Go.MB
open Go Go.Sx Go.Proofs
set_option linter.unusedVariables false
set_option linter.unusedSimpArgs false
noncomputable section
theorem ordB_map:∀{l m:List Pm}{last:Int},l.map (·.1)=m.map (·.1)->qW last l=qW last m
 | [],[],_,_=>rfl
 | [],_::_,_,h=>by cases h
 |_::_,[],_,h=>by cases h
 |x::l,y::m,last,h=>by
  rw[List.map_cons,List.map_cons,List.cons.injEq] at h
  rw[qW,qW,h.1,ordB_map h.2]
theorem ordB_len:∀{l:List Pm}{last:Int},qW last l=false->last<=15->(l.length:Int)<=15 - last
 | [],_,_,h=>by simp;omega
 |y::l,last,h,hl=>by
  rw[qW,Bool.or_eq_false_iff,Bool.or_eq_false_iff,decide_eq_false_iff_not,decide_eq_false_iff_not] at h
  have:=ordB_len h.2.2 (by omega)
  rw[List.length_cons];omega
theorem set_map{l:List Pm}{i:Nat}{p:Pm}(h:p.1=(l.getD i (0,0,0,false)).1):(l.set i p).map (·.1)=l.map (·.1):=by
 rw[List.map_set,h]
 by_cases c:i<l.length
 ·have e:(l.getD i (0,0,0,false)).1=(l.map (·.1)).getD i 0:=by
   rw[List.getD_eq_getElem?_getD,List.getD_eq_getElem?_getD,List.getElem?_map,List.getElem?_eq_getElem c];rfl
  rw[e]
  exact set_same 0 _ _
 ·rw[List.set_eq_of_length_le (by rw[List.length_map];omega)]
def insR(p:Pm):List Pm->List Pm
 | []=>[p]
 |x::r=>if x.1<p.1 then x::insR p r else p::x::r
theorem lwP_shift(op:Int):∀(l:List Pm)(i:Int),lwP op l i=i+lwP op l 0
 | [],i=>by rw[lwP,lwP];omega
 |x::r,i=>by
  rw[lwP,lwP]
  split
  ·rw[lwP_shift op r (i+1),lwP_shift op r (0+1)];omega
  ·omega
theorem insP_eq(p:Pm):∀l:List Pm,fN p l=insR p l
 | []=>rfl
 |x::r=>by
  unfold fN
  rw[lwP,insR]
  split
  ·have h:=insP_eq p r
   unfold fN at h
   have hr:=(lwP_rng p.1 r 0).1
   rw[lwP_shift p.1 r (0+1),show (0+1+lwP p.1 r 0).toNat=(lwP p.1 r 0).toNat+1 by omega,List.take_succ_cons,List.drop_succ_cons,<- h]
   rfl
  ·rfl
theorem insR_mem{p x:Pm}:∀{l:List Pm},x∈insR p l↔x=p\/x∈l
 | []=>by simp[insR]
 |y::r=>by
  rw[insR]
  split
  ·rw[List.mem_cons,List.mem_cons,insR_mem]
   constructor
   ·rintro (h |h |h)
    ·exact .inr (.inl h)
    ·exact .inl h
    ·exact .inr (.inr h)
   ·rintro (h |h |h)
    ·exact .inr (.inl h)
    ·exact .inl h
    ·exact .inr (.inr h)
  ·rw[List.mem_cons]
theorem ordB_insR{p:Pm}:∀{l:List Pm}{last:Int},qW last l=false->last<p.1->p.1<16->(∀x∈l,x.1≠p.1)->qW last (insR p l)=false
 | [],last,_,h1,h2,_=>by
  show (decide (p.1<=last)||(decide (p.1>=16)||false))=false
  rw[decide_eq_false (by omega),decide_eq_false (by omega)];rfl
 |x::r,last,h,h1,h2,h3=>by
  have h':=h
  rw[qW,Bool.or_eq_false_iff,Bool.or_eq_false_iff,decide_eq_false_iff_not,decide_eq_false_iff_not] at h
  rw[insR]
  split
  ·rename_i c
   rw[qW,decide_eq_false h.1,decide_eq_false h.2.1,Bool.false_or,Bool.false_or]
   exact ordB_insR h.2.2 c h2 fun y hy=>h3 y (List.mem_cons_of_mem _ hy)
  ·rename_i c
   have:=h3 x List.mem_cons_self
   rw[qW,decide_eq_false (by omega),decide_eq_false (by omega),Bool.false_or,Bool.false_or,qW,decide_eq_false (by omega),decide_eq_false h.2.1,Bool.false_or,Bool.false_or]
   exact h.2.2
theorem pIx_get{l:List Pm}{op:Int}(h:0<=pIx l op):gPm l (pIx l op)∈l/\(gPm l (pIx l op)).1=op:=by
 unfold pIx gPm at *
 have ha:l.any (opP op)=true:=by
  cases c:l.any (opP op) with
  |true=>rfl
  |false=>unfold ixS at h;rw[c,if_neg (by decide)] at h;omega
 have hr:=ixS_lt ha
 have e:(ixS (opP op) l).toNat=l.findIdx (opP op):=by unfold ixS;rw[if_pos ha,Int.toNat_natCast]
 have hlt:l.findIdx (opP op)<l.length:=List.findIdx_lt_length_of_exists (List.any_eq_true.1 ha)
 refine⟨jT (by omega),?_⟩
 rw[e,List.getD_eq_getElem?_getD,List.getElem?_eq_getElem hlt]
 have:=List.findIdx_getElem (p:=opP op) (w:=hlt)
 exact eq_of_beq this
theorem pIx_none{l:List Pm}{op:Int}(h:¬ 0<=pIx l op):∀x∈l,x.1≠op:=by
 intro x hx e
 refine h ?_
 unfold pIx ixS
 rw[if_pos (show l.any (opP op)=true from List.any_eq_true.2 ⟨x,hx,show (x.1==op)=true from beq_iff_eq.2 e⟩)]
 exact Int.natCast_nonneg _
theorem prmB_iff{c:Int}{p:Pm}:qQ c p=false↔(0<=p.2.1/\p.2.1<c)/\0<=p.2.2.1/\p.2.2.1<=2199023255552:=by
 unfold qQ
 rw[Bool.or_eq_false_iff,Bool.not_eq_false',Bool.not_eq_false',kQ,qZ]
theorem any_set{l:List Pm}{c:Int}{i:Nat}{p:Pm}(h:l.any (qQ c)=false) (hp:qQ c p=false):(l.set i p).any (qQ c)=false:=by
 rw[List.any_eq_false] at *
 intro x hx
 rcases List.mem_or_eq_of_mem_set hx with q |rfl
 ·exact h x q
 ·rw[hp];decide
structure SiteOkV (s:zE):Prop where
 num:NumV s
 hou:zB s.2.2.2.2.2.1=0
 ord:qW (-1) s.2.2.2.2.2.2.1=false
 prm:s.2.2.2.2.2.2.1.any (qQ s.2.1)=false
theorem chkS_all{s:zE}(h:vY s=0):SiteOkV s/\(jM s s.1=true->s.2.2.2.2.2.2.2 = -1)/\(jM s s.1=false->wi s.2.2.2.2.2.2.2 0 s.1=true):=by
 have hn:=chkS_num h
 have hh:=fC h
 have hb:=badN_iff.2 hn
 unfold vY at h
 rw[if_neg (by rw[hb];decide),if_neg (fun k=>k hh)] at h
 split at h
 ·cases h
 split at h
 ·cases h
 split at h
 ·cases h
 rename_i h1 h2 h3
 refine⟨⟨hn,hh,by simpa using h2,by simpa using h3⟩,fun k=>?_,fun k=>?_⟩
 ·rw[if_pos k] at h
  split at h
  ·cases h
  ·rename_i q;exact Decidable.not_not.1 q
 ·rw[if_neg (by rw[k];decide)] at h
  split at h
  ·cases h
  ·rename_i q;simpa using q
theorem ord_len{l:List Pm}(h:qW (-1) l=false):l.length<=16:=by
 have:=ordB_len h (by decide)
 omega
structure ActV (s:zE) (e:zN) (t:zE):Prop where
 tick:t.1=s.1
 crew:t.2.1=s.2.1
 brk:t.2.2.2.2.2.2.2=s.2.2.2.2.2.2.2
 ok:SiteOkV t
 holder:t.2.2.1≠s.2.2.1->e.2.1=7/\e.2.2.1=s.2.2.2.1/\t.2.2.1=e.2.2.1/\t.2.2.2.1 = -1
 offer:t.2.2.2.1≠s.2.2.2.1->e.2.1≠7->e.2.1=6/\e.2.2.1=s.2.2.1/\t.2.2.2.1=e.2.2.2.2.1
 press:t.2.2.2.2.1≠s.2.2.2.2.1->e.2.1=5/\e.2.2.1=s.2.2.1
 els:t.2.2.2.2.2.1.1.length=s.2.2.2.2.2.1.1.length
theorem insL_len(l:List E4)(a:Int):(zAf l a).length=l.length:=by unfold zAf;split<;>simp
theorem tstL_len(l:List E4)(e:zN):(tstL l e).length=l.length:=by unfold tstL;split<;>simp
theorem falL_len(l:List E4)(a:Int):(falL l a).length=l.length:=by unfold falL;split<;>simp
theorem remL_len(l:List E4)(a:Int):(pU l a).length=l.length:=by unfold pU;split<;>simp
theorem act_ok{s:zE}{e:zN}(hv:SiteOkV s) (hw:wi e.1 0 1099511627776=true) (hm:vB s.2.1 e.2.2.1=true) (hk:1<=e.2.1/\e.2.1<=10) (ha:jJ s e=0):ActV s e (zK s e):=by
 obtain⟨v,d,j,n,z,⟨g,o,u⟩,b,A⟩:=s
 obtain⟨e0,e1,e2,e3,e4,e5⟩:=e
 obtain⟨⟨n1,n2,n3,n4,n5,n6⟩,hh,ho,hp⟩:=hv
 dsimp only at n1 n2 n3 n4 n5 n6 hh ho hp hm hw hk
 have hw':=qZ.1 hw
 have hm':=kQ.1 hm
 have house:∀l:List E4,zB (l,o,u)=0->l.length=g.length->ActV (v,d,j,n,z,(g,o,u),b,A) (e0,e1,e2,e3,e4,e5) (setE (v,d,j,n,z,(g,o,u),b,A) l):=fun l h h2=>
  ⟨rfl,rfl,rfl,⟨⟨n1,n2,n3,n4,n5,n6⟩,h,ho,hp⟩,fun k=>absurd rfl k,fun k=>absurd rfl k,fun k=>absurd rfl k,h2⟩
 have perms:∀l:List Pm,qW (-1) l=false->l.any (qQ d)=false->ActV (v,d,j,n,z,(g,o,u),b,A) (e0,e1,e2,e3,e4,e5) (kH (v,d,j,n,z,(g,o,u),b,A) l):=fun l h h2=>
  ⟨rfl,rfl,rfl,⟨⟨n1,n2,n3,n4,n5,n6⟩,hh,h,h2⟩,fun k=>absurd rfl k,fun k=>absurd rfl k,fun k=>absurd rfl k,rfl⟩
 have hcase:e1=1\/e1=2\/e1=3\/e1=4\/e1=5\/e1=6\/e1=7\/e1=8\/e1=9\/e1=10:=by omega
 rcases hcase with rfl |rfl |rfl |rfl |rfl |rfl |rfl |rfl |rfl |rfl
 ·exact house (zAf g e3) (insL_h hh) (insL_len _ _)
 ·exact house (tstL g _) (tstL_h hh hw) (tstL_len _ _)
 ·exact house (falL g e3) (falL_h hh) (falL_len _ _)
 ·exact house (pU g e3) (remL_h hh) (remL_len _ _)
 ·have ha:kN (v,d,j,n,z,(g,o,u),b,A) (e0,5,e2,e3,e4,e5)=0:=ha
  have q:prsQ (v,d,j,n,z,(g,o,u),b,A) (e0,5,e2,e3,e4,e5)=0:=by
   unfold kN at ha
   split at ha
   ·rename_i c;exact absurd ha c
   ·rename_i c;exact Decidable.not_not.1 c
  have q1:e2=j/\0<=e5/\e5<=68719476736:=by
   unfold prsQ at q
   split at q
   ·cases q
   split at q
   ·cases q
   rename_i c1 c2
   exact⟨Decidable.not_not.1 c1,qZ.1 (by simpa using c2)⟩
  have e:prsN (v,d,j,n,z,(g,o,u),b,A) (e0,5,e2,e3,e4,e5)=e5:=by unfold prsN;rw[if_pos q]
  show ActV _ _ (setP _ (prsN (v,d,j,n,z,(g,o,u),b,A) (e0,5,e2,e3,e4,e5)))
  rw[e]
  exact⟨rfl,rfl,rfl,⟨⟨n1,n2,n3,n4,n5,q1.2⟩,hh,ho,hp⟩,fun k=>absurd rfl k,fun k=>absurd rfl k,fun _=>⟨rfl,q1.1⟩,rfl⟩
 ·have ha:pL (v,d,j,n,z,(g,o,u),b,A) (e0,6,e2,e3,e4,e5)=0:=ha
  have e:gX (v,d,j,n,z,(g,o,u),b,A) (e0,6,e2,e3,e4,e5)=e4:=by unfold gX;rw[if_pos ha]
  unfold pL at ha
  split at ha
  ·cases ha
  split at ha
  ·cases ha
  rename_i c1 c2
  have c1:e2=j:=by simpa using c1
  have c2:(!vB d e4||(e4==j))=false:=by
   have:offB (v,d,j,n,z,(g,o,u),b,A) (e0,6,e2,e3,e4,e5)=false:=by simpa using c2
   exact this
  rw[Bool.or_eq_false_iff,Bool.not_eq_false',kQ,beq_eq_false_iff_ne] at c2
  show ActV _ _ (setC _ j (gX (v,d,j,n,z,(g,o,u),b,A) (e0,6,e2,e3,e4,e5)))
  rw[e]
  exact⟨rfl,rfl,rfl,⟨⟨n1,n2,n3,.inr c2.1,c2.2,n6⟩,hh,ho,hp⟩,fun k=>absurd rfl k,fun _ _=>⟨rfl,c1,rfl⟩,fun k=>absurd rfl k,rfl⟩
 ·have ha:gO (v,d,j,n,z,(g,o,u),b,A) (e0,7,e2,e3,e4,e5)=0:=ha
  have q1:fK (v,d,j,n,z,(g,o,u),b,A) (e0,7,e2,e3,e4,e5)=e2:=by unfold fK;rw[if_pos ha]
  have q2:fJ (v,d,j,n,z,(g,o,u),b,A) (e0,7,e2,e3,e4,e5) = -1:=by unfold fJ;rw[if_pos ha]
  unfold gO at ha
  split at ha
  ·cases ha
  rename_i c1
  have c1:e2=n:=by simpa using c1
  show ActV _ _ (setC _ (fK (v,d,j,n,z,(g,o,u),b,A) (e0,7,e2,e3,e4,e5)) (fJ (v,d,j,n,z,(g,o,u),b,A) (e0,7,e2,e3,e4,e5)))
  rw[q1,q2]
  refine⟨rfl,rfl,rfl,⟨⟨n1,n2,hm',.inl rfl,?_,n6⟩,hh,ho,hp⟩,fun _=>⟨rfl,c1,rfl,rfl⟩,fun _ k=>absurd rfl k,fun k=>absurd rfl k,rfl⟩
  show (-1:Int)≠e2;omega
 ·have ha:vM (v,d,j,n,z,(g,o,u),b,A) (e0,8,e2,e3,e4,e5)=0:=ha
  have f:0<=e3/\e3<16/\(0<=e4/\e4<d)/\e0<=e5/\e5<=2199023255552:=by
   unfold vM at ha
   split at ha
   ·cases ha
   split at ha
   ·cases ha
   split at ha
   ·cases ha
   split at ha
   ·cases ha
   split at ha
   ·cases ha
   rename_i c1 c2 c3 c4 c5
   dsimp only at c2 c3 c4 c5
   have c5:=qZ.1 (show wi e5 e0 2199023255552=true by simpa using c5)
   exact⟨by omega,by omega,kQ.1 (by simpa using c4),c5.1,c5.2⟩
  have np:qQ d (e3,e4,e5,false)=false:=prmB_iff.2 ⟨f.2.2.1,by show 0<=e5;omega,f.2.2.2.2⟩
  refine perms (xH (v,d,j,n,z,(g,o,u),b,A) (e0,8,e2,e3,e4,e5)) ?_ ?_
  ·unfold xH
   rw[if_pos ha]
   dsimp only
   split
   ·rename_i c
    rw[ordB_map (set_map (show (pmN (e0,8,e2,e3,e4,e5)).1=_ from (pIx_get c).2.symm))]
    exact ho
   ·rename_i c
    rw[insP_eq]
    exact ordB_insR ho (show (-1:Int)<e3 by omega) f.2.1 (pIx_none c)
  ·unfold xH
   rw[if_pos ha]
   dsimp only
   split
   ·exact any_set hp np
   ·rw[insP_eq,List.any_eq_false]
    intro x hx
    rcases insR_mem.1 hx with rfl |hx
    ·exact fun k=>by rw[show qQ d (pmN (e0,8,e2,e3,e4,e5))=false from np] at k;cases k
    ·exact List.any_eq_false.1 hp x hx
 ·have ha:staE (v,d,j,n,z,(g,o,u),b,A) (e0,9,e2,e3,e4,e5)=0:=ha
  have c:0<=pIx b e3:=by
   unfold staE at ha
   split at ha
   ·cases ha
   ·rename_i c;dsimp only at c;omega
  have hg:=pIx_get c
  have hgp:=prmB_iff.1 (by simpa using List.any_eq_false.1 hp _ hg.1)
  refine perms (staL (v,d,j,n,z,(g,o,u),b,A) (e0,9,e2,e3,e4,e5)) ?_ ?_
  ·unfold staL
   rw[if_pos ha]
   exact (ordB_map (set_map (l:=b) (i:=(pIx b e3).toNat) (p:=((gPm b (pIx b e3)).1,(gPm b (pIx b e3)).2.1,(gPm b (pIx b e3)).2.2.1,true)) rfl)).trans ho
  ·unfold staL
   rw[if_pos ha]
   exact any_set hp (prmB_iff.2 hgp)
 ·have ha:stoE (v,d,j,n,z,(g,o,u),b,A) (e0,10,e2,e3,e4,e5)=0:=ha
  have c:0<=pIx b e3:=by
   unfold stoE at ha
   split at ha
   ·cases ha
   ·rename_i c;dsimp only at c;omega
  have hg:=pIx_get c
  have hgp:=prmB_iff.1 (by simpa using List.any_eq_false.1 hp _ hg.1)
  refine perms (zAc (v,d,j,n,z,(g,o,u),b,A) (e0,10,e2,e3,e4,e5)) ?_ ?_
  ·unfold zAc
   rw[if_pos ha]
   exact (ordB_map (set_map (l:=b) (i:=(pIx b e3).toNat) (p:=((gPm b (pIx b e3)).1,(gPm b (pIx b e3)).2.1,(gPm b (pIx b e3)).2.2.1,false)) rfl)).trans ho
  ·unfold zAc
   rw[if_pos ha]
   exact any_set hp (prmB_iff.2 hgp)
theorem brkS_rng{h:Hs}{fr to press:Int}(hft:fr<=to) (hb:(xF h fr to press).2=true):fr<=(xF h fr to press).1/\(xF h fr to press).1<=to:=by
 have h1:=((brk_ok h fr to press).1 hb).1
 rcases ((tks_ok h fr to).2 _).1 h1 with q |⟨_,_,_,q⟩
 ·omega
 ·exact q
theorem do_ok{s t:zE}{e:zN}(hc:vY s=0) (hd:doG s e=(t,0)):vY t=0/\t.1=e.1/\s.1<=e.1/\ActV s e (zK s e)/\t=setB (fL (zK s e) e.1) (brkN s e (zK s e))/\jJ s e=0:=by
 obtain⟨hv,hk1,hk2⟩:=chkS_all hc
 unfold doG at hd
 split at hd
 ·cases hd
 split at hd
 ·cases hd
 split at hd
 ·cases hd
 split at hd
 ·cases hd
 split at hd
 ·rename_i q;exact absurd (Prod.mk.inj hd).2 q
 rename_i c1 c2 c3 c4 c5
 have c1:wi e.1 0 1099511627776=true:=by simpa using c1
 have c3:vB s.2.1 e.2.2.1=true:=by simpa using c3
 have c5:jJ s e=0:=Decidable.not_not.1 c5
 have hw:=qZ.1 c1
 have ht:t=setB (fL (zK s e) e.1) (brkN s e (zK s e)):=(Prod.mk.inj hd).1.symm
 have av:=act_ok hv c1 c3 (by omega) c5
 refine⟨?_,by rw[ht];rfl,by omega,av,ht,c5⟩
 rw[ht]
 obtain⟨⟨n1,n2,n3,n4,n5,n6⟩,a2,a3,a4⟩:=av.ok
 refine chkS_of (badN_iff.2 ⟨hw,n2,n3,n4,n5,n6⟩) a2 (ord_len a3) a3 a4 ⟨fun k=>?_,fun k=>?_⟩
 ·have k:jM (fL (zK s e) e.1) e.1=true:=k
  show brkN s e (zK s e) = -1
  unfold brkN
  rw[if_pos k]
 ·have k:jM (fL (zK s e) e.1) e.1=false:=k
  show wi (brkN s e (zK s e)) 0 e.1=true
  have h0:=hv.num.tick
  unfold brkN
  rw[if_neg (by rw[k];decide)]
  split
  ·split
   ·rename_i q
    have:=brkS_rng (by omega) q.1
    exact qZ.2 (by omega)
   ·exact qZ.2 (by omega)
  ·rename_i q
   have:jM s s.1=false:=by
    cases c:jM s s.1 with
    |true=>exact absurd (hk1 c) q
    |false=>rfl
   have:=qZ.1 (hk2 this)
   exact qZ.2 (by omega)
end
end Go.MB
