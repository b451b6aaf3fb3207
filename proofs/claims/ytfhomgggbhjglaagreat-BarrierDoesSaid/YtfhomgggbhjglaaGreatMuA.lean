/- Barriers: elements, houses, which envelopes stand, the proof of the rule: the specification. -/
import Derived.Test.YtfhomgggbhjglaaGreatFw4
import Derived.Test.YtfhomgggbhjglaaGreatProg
namespace Go.MB
open Go Go.Sx Go.Proofs
set_option linter.unusedVariables false
set_option linter.unusedSimpArgs false
noncomputable section
abbrev P:Program:=Tryz.prog
theorem hm:P.follows .mixedOrders=true:=by kernel_rfl
theorem jZ{n:Int}(h1 : -9223372036854775808<=n) (h2:n<=9223372036854775807):IntKind.i64.wrap n=n:=by
 have e:IntKind.i64.wrap n=(if n % 18446744073709551616>=9223372036854775808 then n % 18446744073709551616 - 18446744073709551616 else n % 18446744073709551616):=by
  simp[IntKind.wrap,IntKind.signed,IntKind.bits]
 rw[e]
 split<;>omega
abbrev tI:Ty:=.int .i64
abbrev tIs:Ty:=.sl tI
abbrev gR:Ty:=.sl tIs
abbrev tV:Ty:=.pair tI (.pair tI tI)
abbrev V:=Int×Int×Int
abbrev E4:=Int×Int×Int×Int
abbrev tEl:Ty:=.pair tI (.pair tI (.pair tI tI))
abbrev tEls:Ty:=.sl tEl
abbrev Hs:=List E4×List (List Int)×Int
abbrev tHs:Ty:=.pair tEls (.pair gR tI)
abbrev Pm:=Int×Int×Int×Bool
abbrev tPm:Ty:=.pair tI (.pair tI (.pair tI .bool))
abbrev gP:Ty:=.sl tPm
abbrev zE:=Int×Int×Int×Int×Int×Hs×List Pm×Int
abbrev zR:Ty:=.pair tI (.pair tI (.pair tI (.pair tI (.pair tI (.pair tHs (.pair gP tI))))))
abbrev zN:=Int×Int×Int×Int×Int×Int
abbrev jE:Ty:=.pair tI (.pair tI (.pair tI (.pair tI (.pair tI tI))))
theorem jK{α:Type}(d:α) {l:List α}{i:Int}(h0:0<=i) (h:i<l.length):l.drop i.toNat=l.getD i.toNat d::l.drop (i+1).toNat:=by
 have h1:i.toNat<l.length:=by omega
 rw[List.drop_eq_getElem_cons h1,show (i+1).toNat=i.toNat+1 by omega,List.getD_eq_getElem?_getD,List.getElem?_eq_getElem h1,Option.getD_some]
theorem jB{α:Type}{l:List α}{i:Int}(h:¬ i<l.length):l.drop i.toNat=[]:=List.drop_eq_nil_of_le (by omega)
theorem jT{α:Type}{d:α}{l:List α}{i:Nat}(h:i<l.length):l.getD i d∈l:=by
 rw[List.getD_eq_getElem?_getD,List.getElem?_eq_getElem h]
 exact List.getElem_mem h
def ixS{α:Type}(p:α->Bool) (l:List α):Int:=if l.any p=true then (l.findIdx p:Int) else -1
theorem ixS_ge{α:Type}(p:α->Bool) (l:List α):decide (ixS p l>=0)=l.any p:=by
 unfold ixS
 cases h:l.any p with
 |true=>simp
 |false=>simp
def ixR{α:Type}(p:α->Bool) (l:List α) (i:Int):Int:=i+((l.drop i.toNat).findIdx p:Int)
theorem ix_step{α:Type}{p:α->Bool}{l:List α}{i:Int}(d:α) (h0:0<=i) (h:i<l.length) :
  (l.drop i.toNat).any p=(p (l.getD i.toNat d)||(l.drop (i+1).toNat).any p)/\(p (l.getD i.toNat d)=true->ixR p l i=i)/\(p (l.getD i.toNat d)=false->ixR p l i=ixR p l (i+1)):=by
 have e:=jK d h0 h
 unfold ixR
 rw[e]
 refine⟨rfl,fun hp=>?_,fun hp=>?_⟩
 ·rw[List.findIdx_cons,hp];simp
 ·rw[List.findIdx_cons,hp];simp only[cond_false];omega
def wi(n a b:Int):Bool:=decide (a<=n)&&decide (n<=b)
theorem qZ{n a b:Int}:wi n a b=true↔a<=n/\n<=b:=by unfold wi;simp
theorem T_within(n a b:Int):jD (P:=P) [] (zH []) Tryz.f54 (z_ 0 [.val tI,.val tI,.val tI] (n,a,b,())) =
 Tree.cond (decide (a<=n)) (.leaf (.bool (decide (n<=b)))) (.leaf (.bool false)):=by kernel_rfl
def wE:PC P:=PC.of (α:=Int×Int×Int×Unit) 54 [.val tI,.val tI,.val tI] (fun x=>x) (fun x=>x) (fun _=>rfl)
 (fun _=>none)
 (fun x=>.bool (wi x.1 x.2.1 x.2.2.1)) (by kernel_rfl) (by
  rintro⟨n,a,b,⟨⟩⟩ hp
  refine yK hm (by kernel_rfl) (by kernel_rfl) (T_within n a b) trivial ?_
  refine⟨fun c1=>?_,fun c1=>?_⟩
  ·exact congrArg SV.bool (show _=wi n a b by unfold wi;rw[c1,Bool.true_and])
  ·exact congrArg SV.bool (show _=wi n a b by unfold wi;rw[c1,Bool.false_and]))
theorem T_between(n a b:Int):jD (P:=P) [] (zH []) Tryz.f61 (z_ 0 [.val tI,.val tI,.val tI] (n,a,b,())) =
 Tree.cond (decide (n>=a)) (.leaf (.bool (decide (n<=b)))) (.leaf (.bool false)):=by kernel_rfl
def wV:PC P:=PC.of (α:=Int×Int×Int×Unit) 61 [.val tI,.val tI,.val tI] (fun x=>x) (fun x=>x) (fun _=>rfl)
 (fun _=>none)
 (fun x=>.bool (wi x.1 x.2.1 x.2.2.1)) (by kernel_rfl) (by
  rintro⟨n,a,b,⟨⟩⟩ hp
  refine yK hm (by kernel_rfl) (by kernel_rfl) (T_between n a b) trivial ?_
  refine⟨fun c1=>?_,fun c1=>?_⟩
  ·have d1:decide (a<=n)=true:=c1
   exact congrArg SV.bool (show _=wi n a b by unfold wi;rw[d1,Bool.true_and])
  ·have d1:decide (a<=n)=false:=c1
   exact congrArg SV.bool (show _=wi n a b by unfold wi;rw[d1,Bool.false_and]))
def elE(e:E4):Int:=if e.1<0\/e.1>3 then 4 else if wi e.2.1 0 68719476736=false\/wi e.2.2.1 0 1099511627776=false\/wi e.2.2.2 e.2.2.1 2199023255552=false then 2 else 0
def elEs:List E4->Int
 | []=>0
 |e::r=>if elE e≠0 then elE e else elEs r
def zAh(n:Int):Int->List Int->Bool
 |_,[]=>false
 |last,i::r=>decide (i<=last)||(decide (i>=n)||zAh n i r)
def kX(n:Int)(l:List Int):Int:=if l.length=0 then 6 else if zAh n (-1) l=true then 11 else 0
def gA(n:Int):List (List Int)->Int
 | []=>0
 |l::r=>if kX n l≠0 then kX n l else gA n r
def zB(h:Hs):Int :=
 if h.1.length=0 then 6 else if h.1.length>10\/h.2.1.length>8 then 8
 else if elEs h.1≠0 then elEs h.1 else if gA h.1.length h.2.1≠0 then gA h.1.length h.2.1
 else if h.2.2<1\/h.2.2>3 then 2 else 0
def fI(e:E4)(tick press:Int):Bool:=decide (e.1=2)&&(wi tick e.2.2.1 e.2.2.2&&decide (e.2.1>=press))
theorem elEs_step{l:List E4}{i:Int}(h0:0<=i) (h:i<l.length):elEs (l.drop i.toNat)=if elE (l.getD i.toNat (0,0,0,0))≠0 then elE (l.getD i.toNat (0,0,0,0)) else elEs (l.drop (i+1).toNat):=by
 rw[jK (0,0,0,0) h0 h,elEs]
theorem envB_step{n last:Int}{l:List Int}{i:Int}(h0:0<=i) (h:i<l.length):zAh n last (l.drop i.toNat)=(decide (l.getD i.toNat 0<=last)||(decide (l.getD i.toNat 0>=n)||zAh n (l.getD i.toNat 0) (l.drop (i+1).toNat))):=by
 rw[jK (0:Int) h0 h,zAh]
theorem envEs_step{n:Int}{l:List (List Int)}{i:Int}(h0:0<=i) (h:i<l.length):gA n (l.drop i.toNat)=if kX n (l.getD i.toNat [])≠0 then kX n (l.getD i.toNat []) else gA n (l.drop (i+1).toNat):=by
 rw[jK ([]:List Int) h0 h,gA]
def ofN:List Int->Nat->Nat
 | [],s=>s
 |i::l,s=>ofN l (s |||1 <<< i.toNat)
theorem ofN_bit:∀(l:List Int)(s j:Nat),(ofN l s).testBit j=(s.testBit j||l.any fun i=>i.toNat==j)
 | [],s,j=>by simp[ofN]
 |i::l,s,j=>by
  rw[ofN,ofN_bit l,List.any_cons,Nat.testBit_or,Nat.one_shiftLeft,Nat.testBit_two_pow,Bool.or_assoc]
  congr 2
theorem lt_of_bits{s n:Nat}(h:∀j,n<=j->s.testBit j=false):s<2 ^ n:=Nat.lt_pow_two_of_testBit s h
theorem ofN_lt{l:List Int}{s n:Nat}(hn:0<n) (hs:s<2 ^ n) (h:∀i∈l,i<n):ofN l s<2 ^ n:=by
 refine lt_of_bits fun j hj=>?_
 rw[ofN_bit,Nat.testBit_lt_two_pow (Nat.lt_of_lt_of_le hs (Nat.pow_le_pow_right (by decide) hj)),Bool.false_or]
 rw[List.any_eq_false]
 intro i hi
 have:=h i hi
 simp only[beq_iff_eq]
 by_cases c:0<=i
 ·omega
 ·have e:i.toNat=0:=by omega
  rw[e];omega
theorem and_zero{a b:Nat}:a &&& b=0↔∀j,¬ (a.testBit j=true/\b.testBit j=true):=by
 constructor
 ·intro h j hj
  have:(a &&& b).testBit j=true:=by rw[Nat.testBit_and,hj.1,hj.2];rfl
  rw[h] at this;simp at this
 ·intro h
  refine Nat.eq_of_testBit_eq fun j=>?_
  rw[Nat.testBit_and,Nat.zero_testBit]
  have:=h j
  cases c:a.testBit j<;>cases d:b.testBit j<;>simp_all
theorem and_self_of{a b:Nat}:a &&& b=a↔∀j,a.testBit j=true->b.testBit j=true:=by
 constructor
 ·intro h j hj
  have:(a &&& b).testBit j=true:=by rw[h];exact hj
  rw[Nat.testBit_and,hj] at this
  simpa using this
 ·intro h
  refine Nat.eq_of_testBit_eq fun j=>?_
  rw[Nat.testBit_and]
  have:=h j
  cases c:a.testBit j<;>simp_all
def yE(tick press:Int):List E4->Nat->Nat->Nat
 | [],_,s=>s
 |e::l,i,s=>yE tick press l (i+1) (if fI e tick press=true then s |||1 <<< i else s)
def inF(f:List Bool)(l:List Int):Bool:=l.all fun i=>f.getD i.toNat false
def vU(f:List Bool):List (List Int)->Int->List Int
 | [],_=>[]
 |l::r,i=>if inF f l=true then i::vU f r (i+1) else vU f r (i+1)
def disj(a b:List Int):Bool:=!a.any fun x=>b.any fun y=>x==y
def yQ(envs:List (List Int))(i:Int):List Int:=envs.getD i.toNat []
def prf(envs:List (List Int)):List Int->List Int->Nat->Option (List Int)
 |_,so,0=>some so
 | [],_,_+1=>none
 |k::r,so,n+1=>if (so.all fun j=>disj (yQ envs j) (yQ envs k))=true then (match prf envs r (so++[k]) n with |some x=>some x |none=>prf envs r so (n+1)) else prf envs r so (n+1)
def xO(h:Hs)(tick press:Int):List Bool:=h.1.map fun e=>fI e tick press
def proofF(h:Hs)(f:List Bool):Option (List Int):=prf h.2.1 (vU f h.2.1 0) [] h.2.2.toNat
def zQ(h:Hs)(tick press:Int):Bool:=(proofF h (xO h tick press)).isSome
theorem worksN_bit(tick press:Int):∀(l:List E4)(i s j:Nat),(yE tick press l i s).testBit j=(s.testBit j||(decide (i<=j)&&((l.map fun e=>fI e tick press).getD (j - i) false)))
 | [],i,s,j=>by simp[yE]
 |e::l,i,s,j=>by
  rw[yE,worksN_bit tick press l]
  have hb:(if fI e tick press=true then s |||1 <<< i else s).testBit j=(s.testBit j||(fI e tick press&&decide (i=j))):=by
   cases c:fI e tick press with
   |true=>rw[if_pos rfl,Nat.testBit_or,Nat.one_shiftLeft,Nat.testBit_two_pow,Bool.true_and]
   |false=>rw[if_neg (by decide),Bool.false_and,Bool.or_false]
  rw[hb,List.map_cons,Bool.or_assoc]
  congr 1
  rcases Nat.lt_trichotomy i j with h |h |h
  ·have e1:decide (i=j)=false:=decide_eq_false (by omega)
   have e2:decide (i+1<=j)=true:=decide_eq_true (by omega)
   have e3:decide (i<=j)=true:=decide_eq_true (by omega)
   rw[e1,e2,e3,Bool.and_false,Bool.false_or,Bool.true_and,Bool.true_and,show j - i=(j - (i+1))+1 by omega]
   rfl
  ·subst h
   have e1:decide (i+1<=i)=false:=decide_eq_false (by omega)
   rw[e1,Bool.false_and,Bool.or_false,Nat.sub_self]
   simp
  ·have e1:decide (i=j)=false:=decide_eq_false (by omega)
   have e2:decide (i+1<=j)=false:=decide_eq_false (by omega)
   have e3:decide (i<=j)=false:=decide_eq_false (by omega)
   rw[e1,e2,e3,Bool.and_false,Bool.false_and,Bool.false_and];rfl
def RelF(s:Nat)(f:List Bool):Prop:=∀j,s.testBit j=f.getD j false
theorem works_rel(h:Hs)(tick press:Int):RelF (yE tick press h.1 0 0) (xO h tick press):=fun j=>by
 rw[worksN_bit,Nat.zero_testBit,Bool.false_or,decide_eq_true (Nat.zero_le j),Bool.true_and,Nat.sub_zero]
 rfl
def vN(s:Nat):List (List Int)->Int->List Int
 | [],_=>[]
 |l::r,i=>if ofN l 0 &&& s=ofN l 0 then i::vN s r (i+1) else vN s r (i+1)
theorem inN_iff{s:Nat}{f:List Bool}(h:RelF s f) (l:List Int):ofN l 0 &&& s=ofN l 0↔inF f l=true:=by
 rw[and_self_of]
 unfold inF
 rw[List.all_eq_true]
 constructor
 ·intro k i hi
  rw[<- h]
  refine k _ ?_
  rw[ofN_bit,Nat.zero_testBit,Bool.false_or,List.any_eq_true]
  exact⟨i,hi,by simp⟩
 ·intro k j hj
  rw[ofN_bit,Nat.zero_testBit,Bool.false_or,List.any_eq_true] at hj
  obtain⟨i,hi,e⟩:=hj
  simp only[beq_iff_eq] at e
  have:=k i hi
  rw[<- h,e] at this
  exact this
theorem standN_eq{s:Nat}{f:List Bool}(h:RelF s f):∀(l:List (List Int))(i:Int),vN s l i=vU f l i
 | [],_=>rfl
 |x::r,i=>by
  rw[vN,vU,standN_eq h r]
  by_cases c:inF f x=true
  ·rw[if_pos c,if_pos ((inN_iff h x).2 c)]
  ·rw[if_neg c,if_neg fun k=>c ((inN_iff h x).1 k)]
def f_(envs:List (List Int)):List Int->Nat->List Int->Nat->Option (List Int)
 |_,_,so,0=>some so
 | [],_,_,_+1=>none
 |k::r,u,so,n+1=>if ofN (yQ envs k) 0 &&& u≠0 then f_ envs r u so (n+1) else (match f_ envs r (u |||ofN (yQ envs k) 0) (so++[k]) n with |some x=>some x |none=>f_ envs r u so (n+1))
def RelU(envs:List (List Int))(u:Nat)(so:List Int):Prop:=∀j,u.testBit j=so.any fun k=>(yQ envs k).any fun i=>i.toNat==j
theorem prfU_eq{envs:List (List Int)}(hp:∀l∈envs,∀i∈l,0<=i):∀(up:List Int)(u:Nat)(so:List Int)(n:Nat),RelU envs u so->f_ envs up u so n=prf envs up so n
 | [],u,so,0,_=>rfl
 | [],u,so,n+1,_=>rfl
 |k::r,u,so,0,_=>rfl
 |k::r,u,so,n+1,h=>by
  have hnn:∀k,∀i∈yQ envs k,0<=i:=fun k i hi=>by
   unfold yQ at hi
   by_cases c:k.toNat<envs.length
   ·exact hp _ (jT c) i hi
   ·rw[List.getD_eq_getElem?_getD,List.getElem?_eq_none (by omega)] at hi;cases hi
  have hd:(ofN (yQ envs k) 0 &&& u=0)↔(so.all fun j=>disj (yQ envs j) (yQ envs k))=true:=by
   rw[and_zero,List.all_eq_true]
   constructor
   ·intro q j hj
    unfold disj
    rw[Bool.not_eq_true',List.any_eq_false]
    intro x hx c
    rw[List.any_eq_true] at c
    obtain⟨y,hy,e⟩:=c
    simp only[beq_iff_eq] at e
    subst e
    refine q x.toNat ⟨?_,?_⟩
    ·rw[ofN_bit,Nat.zero_testBit,Bool.false_or,List.any_eq_true]
     exact⟨x,hy,by simp⟩
    ·rw[h,List.any_eq_true]
     exact⟨j,hj,by rw[List.any_eq_true];exact⟨x,hx,by simp⟩⟩
   ·intro q j ⟨h1,h2⟩
    rw[ofN_bit,Nat.zero_testBit,Bool.false_or,List.any_eq_true] at h1
    rw[h,List.any_eq_true] at h2
    obtain⟨y,hy,e1⟩:=h1
    obtain⟨m,hm,h3⟩:=h2
    rw[List.any_eq_true] at h3
    obtain⟨x,hx,e2⟩:=h3
    simp only[beq_iff_eq] at e1 e2
    have e:x=y:=by have:=hnn _ _ hy;have:=hnn _ _ hx;omega
    have:=q m hm
    unfold disj at this
    rw[Bool.not_eq_true',List.any_eq_false] at this
    refine this x hx ?_
    rw[List.any_eq_true]
    exact⟨y,hy,by rw[e];simp⟩
  have hu:RelU envs (u |||ofN (yQ envs k) 0) (so++[k]):=fun j=>by
   rw[Nat.testBit_or,h,ofN_bit,Nat.zero_testBit,Bool.false_or,List.any_append]
   simp
  rw[f_,prf,prfU_eq hp r _ _ n hu,prfU_eq hp r _ _ (n+1) h]
  by_cases c:(so.all fun j=>disj (yQ envs j) (yQ envs k))=true
  ·rw[if_pos c,if_neg (fun q=>q (hd.2 c))]
  ·rw[if_neg c,if_pos (fun q=>c (hd.1 q))]
theorem relU_nil(envs:List (List Int)):RelU envs 0 []:=fun j=>by rw[Nat.zero_testBit];rfl
end
end Go.MB
