/- What an entry does at a valid site. -/
import Derived.Test.YtfhomgggbhjglaaGreatMuV
import Derived.Test.YtfhomgggbhjglaaGreatMuO
namespace Go.MB
open Go Go.Sx Go.Proofs
set_option linter.unusedVariables false
set_option linter.unusedSimpArgs false
noncomputable section
theorem elEs_of:∀{l:List E4},(∀e∈l,elE e=0)->elEs l=0
 | [],_=>rfl
 |e::r,h=>by
  rw[elEs,if_neg (by rw[h e List.mem_cons_self];simp)]
  exact elEs_of fun q hq=>h q (List.mem_cons_of_mem _ hq)
theorem houseE_set{l:List E4}{v:List (List Int)}{n:Int}{i:Nat}{x:E4}(h:zB (l,v,n)=0) (hx:elE x=0):zB (l.set i x,v,n)=0:=by
 have k:=yD h
 have e:elEs (l.set i x)=0:=elEs_of fun q hq=>by
  rcases List.mem_or_eq_of_mem_set hq with h |rfl
  ·exact k.el q h
  ·exact hx
 have e0:elEs l=0:=elEs_of k.el
 unfold zB at h ⊢
 dsimp only at h ⊢
 rw[e0] at h
 rw[List.length_set,e]
 exact h
theorem gEl_mem{l:List E4}{a:Int}(h:xQ l.length a):gEl l a∈l:=jT (by have:=h.1;have:=h.2;omega)
theorem insL_h{l:List E4}{v:List (List Int)}{n a:Int}(h:zB (l,v,n)=0):zB (zAf l a,v,n)=0:=by
 unfold zAf
 split
 ·exact houseE_set h (by decide)
 ·exact h
theorem remL_h{l:List E4}{v:List (List Int)}{n a:Int}(h:zB (l,v,n)=0):zB (pU l a,v,n)=0:=by
 unfold pU
 split
 ·exact houseE_set h (by decide)
 ·exact h
theorem elE_iff{x:E4}:elE x=0↔(0<=x.1/\x.1<=3)/\(0<=x.2.1/\x.2.1<=68719476736)/\(0<=x.2.2.1/\x.2.2.1<=1099511627776)/\x.2.2.1<=x.2.2.2/\x.2.2.2<=2199023255552:=by
 unfold elE
 have w:∀n a b:Int,wi n a b=false↔¬ (a<=n/\n<=b):=fun n a b=>by
  rw[<- qZ];simp
 simp only[w]
 constructor
 ·intro h
  split at h
  ·cases h
  ·split at h
   ·cases h
   ·omega
 ·intro h
  rw[if_neg (by omega),if_neg (by omega)]
theorem falL_h{l:List E4}{v:List (List Int)}{n a:Int}(h:zB (l,v,n)=0):zB (falL l a,v,n)=0:=by
 unfold falL
 split
 ·rename_i c
  have hr:xQ l.length a:=by
   unfold falE at c
   split at c
   ·cases c
   ·rename_i q;exact Decidable.not_not.1 q
  have:=elE_iff.1 ((yD h).el _ (gEl_mem hr))
  exact houseE_set h (elE_iff.2 ⟨⟨by show (0:Int)<=3;decide,by show (3:Int)<=3;decide⟩,this.2⟩)
 ·exact h
theorem tstE_ok{l:List E4}{e:zN}(c:tstE l e=0):xQ l.length e.2.2.2.1/\(1<=e.2.2.2.2.2/\e.2.2.2.2.2<=68719476736)/\1<=e.2.2.2.2.1/\e.2.2.2.2.1<=16777216/\alvB (gEl l e.2.2.2.1)=true:=by
 unfold tstE at c
 split at c
 ·cases c
 split at c
 ·cases c
 split at c
 ·cases c
 split at c
 ·cases c
 split at c
 ·cases c
 rename_i q1 q2 q3 q4 q5
 exact⟨Decidable.not_not.1 q1,qZ.1 (by simpa using q2),by omega,by omega,by simpa using q5⟩
theorem tstL_h{l:List E4}{v:List (List Int)}{n:Int}{e:zN}(h:zB (l,v,n)=0) (ht:wi e.1 0 1099511627776=true):zB (tstL l e,v,n)=0:=by
 unfold tstL
 split
 ·rename_i c
  obtain⟨_,q2,q3,q4,_⟩:=tstE_ok c
  have ht:=qZ.1 ht
  rw[jZ (n:=e.1+e.2.2.2.2.1) (by omega) (by omega)]
  refine houseE_set h (elE_iff.2 ⟨⟨by show (0:Int)<=2;decide,by show (2:Int)<=3;decide⟩,⟨?_,q2.2⟩,ht,?_,?_⟩)
  ·show 0<=e.2.2.2.2.2;omega
  ·show e.1<=e.1+e.2.2.2.2.1;omega
  ·show e.1+e.2.2.2.2.1<=2199023255552;omega
 ·exact h
def setC(s:zE)(h o:Int):zE:=(s.1,s.2.1,h,o,s.2.2.2.2.1,s.2.2.2.2.2.1,s.2.2.2.2.2.2.1,s.2.2.2.2.2.2.2)
def kH(s:zE)(l:List Pm):zE:=(s.1,s.2.1,s.2.2.1,s.2.2.2.1,s.2.2.2.2.1,s.2.2.2.2.2.1,l,s.2.2.2.2.2.2.2)
def fL(s:zE)(t:Int):zE:=(t,s.2.1,s.2.2.1,s.2.2.2.1,s.2.2.2.2.1,s.2.2.2.2.2.1,s.2.2.2.2.2.2.1,s.2.2.2.2.2.2.2)
def setB(s:zE)(b:Int):zE:=(s.1,s.2.1,s.2.2.1,s.2.2.2.1,s.2.2.2.2.1,s.2.2.2.2.2.1,s.2.2.2.2.2.2.1,b)
def jJ(s:zE)(e:zN):Int:=if e.2.1=1 then zAg s.2.2.2.2.2.1.1 e.2.2.2.1 else if e.2.1=2 then tstE s.2.2.2.2.2.1.1 e else if e.2.1=3 then falE s.2.2.2.2.2.1.1 e.2.2.2.1 else if e.2.1=4 then remE s e else if e.2.1=5 then kN s e else if e.2.1=6 then pL s e else if e.2.1=7 then gO s e else if e.2.1=8 then vM s e else if e.2.1=9 then staE s e else stoE s e
def zK(s:zE)(e:zN):zE:=if e.2.1=1 then setE s (zAf s.2.2.2.2.2.1.1 e.2.2.2.1) else if e.2.1=2 then setE s (tstL s.2.2.2.2.2.1.1 e) else if e.2.1=3 then setE s (falL s.2.2.2.2.2.1.1 e.2.2.2.1) else if e.2.1=4 then setE s (pU s.2.2.2.2.2.1.1 e.2.2.2.1) else if e.2.1=5 then setP s (prsN s e) else if e.2.1=6 then setC s s.2.2.1 (gX s e) else if e.2.1=7 then setC s (fK s e) (fJ s e) else if e.2.1=8 then kH s (xH s e) else if e.2.1=9 then kH s (staL s e) else kH s (zAc s e)
def brkN(s:zE)(e:zN)(t:zE):Int:=if jM (fL t e.1) e.1=true then -1 else if s.2.2.2.2.2.2.2 = -1 then (if (xF s.2.2.2.2.2.1 s.1 e.1 s.2.2.2.2.1).2=true/\wK s=true then (xF s.2.2.2.2.2.1 s.1 e.1 s.2.2.2.2.1).1 else e.1) else s.2.2.2.2.2.2.2
def doG(s:zE)(e:zN):zE×Int :=
 if wi e.1 0 1099511627776=false then (qJ,2) else if e.1<s.1 then (qJ,11) else if vB s.2.1 e.2.2.1=false then (qJ,2)
 else if e.2.1<1\/e.2.1>10 then (qJ,4) else if jJ s e≠0 then (qJ,jJ s e) else (setB (fL (zK s e) e.1) (brkN s e (zK s e)),0)
abbrev siteA(s:zE):List SV:=[.int .i64 s.1,.int .i64 s.2.1,.int .i64 s.2.2.1,.int .i64 s.2.2.2.1,.int .i64 s.2.2.2.2.1,.sl tEl s.2.2.2.2.2.1.1,.sl tIs s.2.2.2.2.2.1.2.1,.int .i64 s.2.2.2.2.2.1.2.2,.sl tPm s.2.2.2.2.2.2.1,.int .i64 s.2.2.2.2.2.2.2]
def resG(x:zE×Int):SV:=.tup [.agg (siteA x.1),.int .i64 x.2]
def leafS(s:zE):Tree SV:=.leaf (resG (s,0))
theorem leS_bad(n:Int):LeS (SV.tup [.agg [.int .i64 0,.int .i64 0,.int .i64 0,.int .i64 0,.int .i64 0,.nils,.nils,.int .i64 0,.nils,.int .i64 0],.int .i64 n]) (resG (qJ,n)):=⟨⟨rfl,rfl,rfl,rfl,rfl,rfl,rfl,rfl,rfl,rfl,trivial⟩,rfl,trivial⟩
theorem leS_good(x:zE×Int):LeS (resG x) (resG x):=⟨⟨rfl,rfl,rfl,rfl,rfl,rfl,rfl,rfl,rfl,rfl,trivial⟩,rfl,trivial⟩
theorem insP_len(p:Pm)(l:List Pm):(fN p l).length=l.length+1:=by
 unfold fN
 have:=lwP_rng p.1 l 0
 simp only[List.length_append,List.length_take,List.length_drop,List.length_cons,List.length_nil]
 omega
theorem prmL_len(s:zE)(e:zN):(xH s e).length<=s.2.2.2.2.2.2.1.length+1:=by
 unfold xH
 split
 ·split
  ·rw[List.length_set];omega
  ·rw[insP_len];omega
 ·omega
theorem staL_len(s:zE)(e:zN):(staL s e).length=s.2.2.2.2.2.2.1.length:=by
 unfold staL
 split
 ·rw[List.length_set]
 ·rfl
theorem stoL_len(s:zE)(e:zN):(zAc s e).length=s.2.2.2.2.2.2.1.length:=by
 unfold zAc
 split
 ·rw[List.length_set]
 ·rfl
theorem findI_none{es:List (Int×FuncId)}{i:Int}(h:∀p∈es,i≠p.1):findI es i=none:=by
 induction es with
 |nil=>rfl
 |cons p r ih=>
  unfold findI
  rw[decide_eq_false (h p List.mem_cons_self)]
  exact ih fun q hq=>h q (List.mem_cons_of_mem _ hq)
end
end Go.MB
