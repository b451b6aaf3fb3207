/- What an entry does at a valid site. -/
import Derived.Test.YtfhomgggbhjglaaGreatMuW
import Derived.Test.YtfhomgggbhjglaaGreatMuO
namespace Go.MB
open Go Go.Sx Go.Proofs
set_option linter.unusedVariables false
set_option linter.unusedSimpArgs false
noncomputable section
theorem elEs_of:∀{l:List E4},(∀e∈l,elE e=0)->elEs l=0
 | [],_=>rfl
 |e::r,h=>by
  rw[elEs,if_neg (by rw[h e List.mem_cons_self];simp)]
  exact elEs_of fun q hq=>h q (List.mem_cons_of_mem _ hq)
theorem houseE_set{l:List E4}{v:List (List Int)}{n:Int}{i:Nat}{x:E4}(h:zE (l,v,n)=0) (hx:elE x=0):zE (l.set i x,v,n)=0:=by
 have k:=houseE_ok h
 have e:elEs (l.set i x)=0:=elEs_of fun q hq=>by
  rcases List.mem_or_eq_of_mem_set hq with h |rfl
  ·exact k.el q h
  ·exact hx
 have e0:elEs l=0:=elEs_of k.el
 unfold zE at h ⊢
 dsimp only at h ⊢
 rw[e0] at h
 rw[List.length_set,e]
 exact h
theorem gEl_mem{l:List E4}{a:Int}(h:inRg l.length a):gEl l a∈l:=getD_mem (by have:=h.1;have:=h.2;omega)
theorem insL_h{l:List E4}{v:List (List Int)}{n a:Int}(h:zE (l,v,n)=0):zE (insL l a,v,n)=0:=by
 unfold insL
 split
 ·exact houseE_set h (by decide)
 ·exact h
theorem remL_h{l:List E4}{v:List (List Int)}{n a:Int}(h:zE (l,v,n)=0):zE (remL l a,v,n)=0:=by
 unfold remL
 split
 ·exact houseE_set h (by decide)
 ·exact h
theorem elE_iff{x:E4}:elE x=0↔(0<=x.1/\x.1<=3)/\(0<=x.2.1/\x.2.1<=68719476736)/\(0<=x.2.2.1/\x.2.2.1<=1099511627776)/\x.2.2.1<=x.2.2.2/\x.2.2.2<=2199023255552:=by
 unfold elE
 have w:∀n a b:Int,wi n a b=false↔¬ (a<=n/\n<=b):=fun n a b=>by
  rw[<- wi_iff];simp
 simp only[w]
 constructor
 ·intro h
  split at h
  ·cases h
  ·split at h
   ·cases h
   ·omega
 ·intro h
  rw[if_neg (by omega),if_neg (by omega)]
theorem falL_h{l:List E4}{v:List (List Int)}{n a:Int}(h:zE (l,v,n)=0):zE (falL l a,v,n)=0:=by
 unfold falL
 split
 ·rename_i c
  have hr:inRg l.length a:=by
   unfold falE at c
   split at c
   ·cases c
   ·rename_i q;exact Decidable.not_not.1 q
  have:=elE_iff.1 ((houseE_ok h).el _ (gEl_mem hr))
  exact houseE_set h (elE_iff.2 ⟨⟨by show (0:Int)<=3;decide,by show (3:Int)<=3;decide⟩,this.2⟩)
 ·exact h
theorem tstE_ok{l:List E4}{e:zP}(c:tstE l e=0):inRg l.length e.2.2.2.1/\(1<=e.2.2.2.2.2/\e.2.2.2.2.2<=68719476736)/\1<=e.2.2.2.2.1/\e.2.2.2.2.1<=16777216/\alvB (gEl l e.2.2.2.1)=true:=by
 unfold tstE at c
 split at c
 ·cases c
 split at c
 ·cases c
 split at c
 ·cases c
 split at c
 ·cases c
 split at c
 ·cases c
 rename_i q1 q2 q3 q4 q5
 exact⟨Decidable.not_not.1 q1,wi_iff.1 (by simpa using q2),by omega,by omega,by simpa using q5⟩
theorem tstL_h{l:List E4}{v:List (List Int)}{n:Int}{e:zP}(h:zE (l,v,n)=0) (ht:wi e.1 0 1099511627776=true):zE (tstL l e,v,n)=0:=by
 unfold tstL
 split
 ·rename_i c
  obtain⟨_,q2,q3,q4,_⟩:=tstE_ok c
  have ht:=wi_iff.1 ht
  rw[jK (n:=e.1+e.2.2.2.2.1) (by omega) (by omega)]
  refine houseE_set h (elE_iff.2 ⟨⟨by show (0:Int)<=2;decide,by show (2:Int)<=3;decide⟩,⟨?_,q2.2⟩,ht,?_,?_⟩)
  ·show 0<=e.2.2.2.2.2;omega
  ·show e.1<=e.1+e.2.2.2.2.1;omega
  ·show e.1+e.2.2.2.2.1<=2199023255552;omega
 ·exact h
def setC(s:zX)(h o:Int):zX:=(s.1,s.2.1,h,o,s.2.2.2.2.1,s.2.2.2.2.2.1,s.2.2.2.2.2.2.1,s.2.2.2.2.2.2.2)
def setPm(s:zX)(l:List Pm):zX:=(s.1,s.2.1,s.2.2.1,s.2.2.2.1,s.2.2.2.2.1,s.2.2.2.2.2.1,l,s.2.2.2.2.2.2.2)
def setT(s:zX)(t:Int):zX:=(t,s.2.1,s.2.2.1,s.2.2.2.1,s.2.2.2.2.1,s.2.2.2.2.2.1,s.2.2.2.2.2.2.1,s.2.2.2.2.2.2.2)
def setB(s:zX)(b:Int):zX:=(s.1,s.2.1,s.2.2.1,s.2.2.2.1,s.2.2.2.2.1,s.2.2.2.2.2.1,s.2.2.2.2.2.2.1,b)
def actE(s:zX)(e:zP):Int:=if e.2.1=1 then insE s.2.2.2.2.2.1.1 e.2.2.2.1 else if e.2.1=2 then tstE s.2.2.2.2.2.1.1 e else if e.2.1=3 then falE s.2.2.2.2.2.1.1 e.2.2.2.1 else if e.2.1=4 then remE s e else if e.2.1=5 then prsE s e else if e.2.1=6 then offE s e else if e.2.1=7 then takE s e else if e.2.1=8 then prmE s e else if e.2.1=9 then staE s e else stoE s e
def zT(s:zX)(e:zP):zX:=if e.2.1=1 then setE s (insL s.2.2.2.2.2.1.1 e.2.2.2.1) else if e.2.1=2 then setE s (tstL s.2.2.2.2.2.1.1 e) else if e.2.1=3 then setE s (falL s.2.2.2.2.2.1.1 e.2.2.2.1) else if e.2.1=4 then setE s (remL s.2.2.2.2.2.1.1 e.2.2.2.1) else if e.2.1=5 then setP s (prsN s e) else if e.2.1=6 then setC s s.2.2.1 (offO s e) else if e.2.1=7 then setC s (takH s e) (takO s e) else if e.2.1=8 then setPm s (prmL s e) else if e.2.1=9 then setPm s (staL s e) else setPm s (stoL s e)
def brkN(s:zX)(e:zP)(t:zX):Int:=if keepS (setT t e.1) e.1=true then -1 else if s.2.2.2.2.2.2.2 = -1 then (if (brkS s.2.2.2.2.2.1 s.1 e.1 s.2.2.2.2.1).2=true/\opnS s=true then (brkS s.2.2.2.2.2.1 s.1 e.1 s.2.2.2.2.1).1 else e.1) else s.2.2.2.2.2.2.2
def doG(s:zX)(e:zP):zX×Int :=
 if wi e.1 0 1099511627776=false then (zSite,2) else if e.1<s.1 then (zSite,11) else if memB s.2.1 e.2.2.1=false then (zSite,2)
 else if e.2.1<1\/e.2.1>10 then (zSite,4) else if actE s e≠0 then (zSite,actE s e) else (setB (setT (zT s e) e.1) (brkN s e (zT s e)),0)
abbrev siteA(s:zX):List SV:=[.int .i64 s.1,.int .i64 s.2.1,.int .i64 s.2.2.1,.int .i64 s.2.2.2.1,.int .i64 s.2.2.2.2.1,.sl tEl s.2.2.2.2.2.1.1,.sl tIs s.2.2.2.2.2.1.2.1,.int .i64 s.2.2.2.2.2.1.2.2,.sl tPm s.2.2.2.2.2.2.1,.int .i64 s.2.2.2.2.2.2.2]
def resG(x:zX×Int):SV:=.tup [.agg (siteA x.1),.int .i64 x.2]
def badT(n:Int):Tree SV:=.leaf (.tup [.agg [.int .i64 0,.int .i64 0,.int .i64 0,.int .i64 0,.int .i64 0,.nils,.nils,.int .i64 0,.nils,.int .i64 0],.int .i64 n])
def leafS(s:zX):Tree SV:=.leaf (resG (s,0))
def tailT(s:zX)(e:zP)(t:zX):Tree SV :=
 .need (zE t.2.2.2.2.2.1=0/\t.2.2.2.2.2.2.1.length<=1000) (.cond (keepS (setT t e.1) e.1) (leafS (setB (setT t e.1) (-1))) (.cond (s.2.2.2.2.2.2.2 == -1)
  (.need (zE s.2.2.2.2.2.1=0) (.cond (brkS s.2.2.2.2.2.1 s.1 e.1 s.2.2.2.2.1).2 (.need (s.2.2.2.2.2.2.1.length<=1000) (.cond (opnS s) (leafS (setB (setT t e.1) (brkS s.2.2.2.2.2.1 s.1 e.1 s.2.2.2.2.1).1)) (leafS (setB (setT t e.1) e.1)))) (leafS (setB (setT t e.1) e.1))))
  (leafS (setB (setT t e.1) s.2.2.2.2.2.2.2))))
theorem leS_bad(n:Int):LeS (SV.tup [.agg [.int .i64 0,.int .i64 0,.int .i64 0,.int .i64 0,.int .i64 0,.nils,.nils,.int .i64 0,.nils,.int .i64 0],.int .i64 n]) (resG (zSite,n)):=⟨⟨rfl,rfl,rfl,rfl,rfl,rfl,rfl,rfl,rfl,rfl,trivial⟩,rfl,trivial⟩
theorem leS_good(x:zX×Int):LeS (resG x) (resG x):=⟨⟨rfl,rfl,rfl,rfl,rfl,rfl,rfl,rfl,rfl,rfl,trivial⟩,rfl,trivial⟩
theorem tail_ok{s:zX}{e:zP}{t:zX}{R:SV}(h1:zE t.2.2.2.2.2.1=0/\t.2.2.2.2.2.2.1.length<=1000) (h2:zE s.2.2.2.2.2.1=0) (h3:s.2.2.2.2.2.2.1.length<=1000) (hR:resG (setB (setT t e.1) (brkN s e t),0)=R):Tree.holds (fun x=>LeS x R) (tailT s e t):=by
 have fin:∀b,brkN s e t=b->LeS (resG (setB (setT t e.1) b,0)) R:=fun b h=>by
  rw[<- hR,h];exact leS_good _
 unfold brkN at fin
 refine⟨h1,fun c1=>fin _ (if_pos c1),fun c1=>⟨fun c2=>⟨h2,fun c3=>⟨h3,fun c4=>fin _ ?_,fun c4=>fin _ ?_⟩,fun c3=>fin _ ?_⟩,fun c2=>fin _ ?_⟩⟩
 ·rw[if_neg (by rw[c1];decide),if_pos (eq_of_beq c2),if_pos ⟨c3,c4⟩]
 ·rw[if_neg (by rw[c1];decide),if_pos (eq_of_beq c2),if_neg (fun k=>by rw[c4] at k;cases k.2)]
 ·rw[if_neg (by rw[c1];decide),if_pos (eq_of_beq c2),if_neg (fun k=>by rw[c3] at k;cases k.1)]
 ·rw[if_neg (by rw[c1];decide),if_neg (ne_of_beq_false c2)]
theorem br_ok{s:zX}{e:zP}{n:Int}{t:zX}{R:SV}(h1:n=0->zE t.2.2.2.2.2.1=0/\t.2.2.2.2.2.2.1.length<=1000) (h2:zE s.2.2.2.2.2.1=0) (h3:s.2.2.2.2.2.2.1.length<=1000) (hb:n≠0->resG (zSite,n)=R) (hg:n=0->resG (setB (setT t e.1) (brkN s e t),0)=R) :
  Tree.holds (fun x=>LeS x R) (.cond (n != 0) (badT n) (tailT s e t)):=by
 refine⟨fun c=>?_,fun c=>?_⟩
 ·rw[<- hb (bneT c)]
  exact leS_bad n
 ·have c:=bneF c
  exact tail_ok (h1 c) h2 h3 (hg c)
theorem insP_len(p:Pm)(l:List Pm):(insP p l).length=l.length+1:=by
 unfold insP
 have:=lwP_rng p.1 l 0
 simp only[List.length_append,List.length_take,List.length_drop,List.length_cons,List.length_nil]
 omega
theorem prmL_len(s:zX)(e:zP):(prmL s e).length<=s.2.2.2.2.2.2.1.length+1:=by
 unfold prmL
 split
 ·split
  ·rw[List.length_set];omega
  ·rw[insP_len];omega
 ·omega
theorem staL_len(s:zX)(e:zP):(staL s e).length=s.2.2.2.2.2.2.1.length:=by
 unfold staL
 split
 ·rw[List.length_set]
 ·rfl
theorem stoL_len(s:zX)(e:zP):(stoL s e).length=s.2.2.2.2.2.2.1.length:=by
 unfold stoL
 split
 ·rw[List.length_set]
 ·rfl
theorem findI_none{es:List (Int×FuncId)}{i:Int}(h:∀p∈es,i≠p.1):findI es i=none:=by
 induction es with
 |nil=>rfl
 |cons p r ih=>
  unfold findI
  rw[decide_eq_false (h p List.mem_cons_self)]
  exact ih fun q hq=>h q (List.mem_cons_of_mem _ hq)
theorem T_doX(C y z A m:Int)(f:List (Int×V))(g:List (List Int))(j:Int)(u:List (Int×(Int×(Int×Bool))))(B E0 E1 E2 E3 E4 E5:Int):zU (P:=P) [c_within.gc,c_member.gc,c_deeds.gc,c_CopyR.gc,c_install.gc,c_test.gc,c_fail.gc,c_remove.gc,c_press.gc,c_offerR.gc,c_takeR.gc,c_allow.gc,c_start.gc,c_stop.gc,c_keepsX.gc,c_openS.gc,c_broken.gc] (zI []) Tryz.f50 (jM 0 [.agg (.pair tI (.pair tI (.pair tI (.pair tI (.pair tI (.pair (.pair (.sl (.pair tI tV)) (.pair (.sl tIs) tI)) (.pair (.sl (.pair tI (.pair tI (.pair tI .bool)))) tI))))))),.agg (.pair tI (.pair tI (.pair tI tV)))] ((C,(y,(z,(A,(m,((f,(g,j)),(u,B))))))),(E0,(E1,(E2,(E3,(E4,E5))))),())) =
 Tree.cond (!wi E0 0 1099511627776) (.leaf (.tup [.agg [.int .i64 0,.int .i64 0,.int .i64 0,.int .i64 0,.int .i64 0,.nils,.nils,.int .i64 0,.nils,.int .i64 0],.int .i64 2])) (.cond (decide (E0<C)) (.leaf (.tup [.agg [.int .i64 0,.int .i64 0,.int .i64 0,.int .i64 0,.int .i64 0,.nils,.nils,.int .i64 0,.nils,.int .i64 0],.int .i64 11])) (.cond (!memB y E2) (.leaf (.tup [.agg [.int .i64 0,.int .i64 0,.int .i64 0,.int .i64 0,.int .i64 0,.nils,.nils,.int .i64 0,.nils,.int .i64 0],.int .i64 2])) (.cond (decide (E1=1)) (.cond false (.leaf (.tup [.agg [.int .i64 0,.int .i64 0,.int .i64 0,.int .i64 0,.int .i64 0,.nils,.nils,.int .i64 0,.nils,.int .i64 0],.int .i64 4])) (.need (sOk (C,y,z,A,m,(f,g,j),u,B)) (.cond (insE f E3 != 0) (.leaf (.tup [.agg [.int .i64 0,.int .i64 0,.int .i64 0,.int .i64 0,.int .i64 0,.nils,.nils,.int .i64 0,.nils,.int .i64 0],.int .i64 (insE f E3)])) (.need (zE (insL f E3,g,j)=0/\u.length<=1000) (.cond (keepS (E0,y,z,A,m,(insL f E3,g,j),u,B) E0) (.leaf (.tup [.agg [.int .i64 E0,.int .i64 y,.int .i64 z,.int .i64 A,.int .i64 m,.sl (Ty.pair tI (Ty.pair tI (Ty.pair tI tI))) (insL f E3),.sl (Ty.sl tI) g,.int .i64 j,.sl (Ty.pair tI (Ty.pair tI (Ty.pair tI Ty.bool))) u,.int .i64 (-1:Int)],.int .i64 0])) (.cond (B==(-1:Int)) (.need (zE (f,g,j)=0) (.cond (brkS (f,g,j) C E0 m).2 (.need (u.length<=1000) (.cond (opnS (C,y,z,A,m,(f,g,j),u,B)) (.leaf (.tup [.agg [.int .i64 E0,.int .i64 y,.int .i64 z,.int .i64 A,.int .i64 m,.sl (Ty.pair tI (Ty.pair tI (Ty.pair tI tI))) (insL f E3),.sl (Ty.sl tI) g,.int .i64 j,.sl (Ty.pair tI (Ty.pair tI (Ty.pair tI Ty.bool))) u,.int .i64 (brkS (f,g,j) C E0 m).1],.int .i64 0])) (.leaf (.tup [.agg [.int .i64 E0,.int .i64 y,.int .i64 z,.int .i64 A,.int .i64 m,.sl (Ty.pair tI (Ty.pair tI (Ty.pair tI tI))) (insL f E3),.sl (Ty.sl tI) g,.int .i64 j,.sl (Ty.pair tI (Ty.pair tI (Ty.pair tI Ty.bool))) u,.int .i64 E0],.int .i64 0])))) (.leaf (.tup [.agg [.int .i64 E0,.int .i64 y,.int .i64 z,.int .i64 A,.int .i64 m,.sl (Ty.pair tI (Ty.pair tI (Ty.pair tI tI))) (insL f E3),.sl (Ty.sl tI) g,.int .i64 j,.sl (Ty.pair tI (Ty.pair tI (Ty.pair tI Ty.bool))) u,.int .i64 E0],.int .i64 0])))) (.leaf (.tup [.agg [.int .i64 E0,.int .i64 y,.int .i64 z,.int .i64 A,.int .i64 m,.sl (Ty.pair tI (Ty.pair tI (Ty.pair tI tI))) (insL f E3),.sl (Ty.sl tI) g,.int .i64 j,.sl (Ty.pair tI (Ty.pair tI (Ty.pair tI Ty.bool))) u,.int .i64 B],.int .i64 0])))))))) (.cond (decide (E1=2)) (.cond false (.leaf (.tup [.agg [.int .i64 0,.int .i64 0,.int .i64 0,.int .i64 0,.int .i64 0,.nils,.nils,.int .i64 0,.nils,.int .i64 0],.int .i64 4])) (.need (sOk (C,y,z,A,m,(f,g,j),u,B)) (.cond (tstE f (E0,E1,E2,E3,E4,E5) != 0) (.leaf (.tup [.agg [.int .i64 0,.int .i64 0,.int .i64 0,.int .i64 0,.int .i64 0,.nils,.nils,.int .i64 0,.nils,.int .i64 0],.int .i64 (tstE f (E0,E1,E2,E3,E4,E5))])) (.need (zE (tstL f (E0,E1,E2,E3,E4,E5),g,j)=0/\u.length<=1000) (.cond (keepS (E0,y,z,A,m,(tstL f (E0,E1,E2,E3,E4,E5),g,j),u,B) E0) (.leaf (.tup [.agg [.int .i64 E0,.int .i64 y,.int .i64 z,.int .i64 A,.int .i64 m,.sl (Ty.pair tI (Ty.pair tI (Ty.pair tI tI))) (tstL f (E0,E1,E2,E3,E4,E5)),.sl (Ty.sl tI) g,.int .i64 j,.sl (Ty.pair tI (Ty.pair tI (Ty.pair tI Ty.bool))) u,.int .i64 (-1:Int)],.int .i64 0])) (.cond (B==(-1:Int)) (.need (zE (f,g,j)=0) (.cond (brkS (f,g,j) C E0 m).2 (.need (u.length<=1000) (.cond (opnS (C,y,z,A,m,(f,g,j),u,B)) (.leaf (.tup [.agg [.int .i64 E0,.int .i64 y,.int .i64 z,.int .i64 A,.int .i64 m,.sl (Ty.pair tI (Ty.pair tI (Ty.pair tI tI))) (tstL f (E0,E1,E2,E3,E4,E5)),.sl (Ty.sl tI) g,.int .i64 j,.sl (Ty.pair tI (Ty.pair tI (Ty.pair tI Ty.bool))) u,.int .i64 (brkS (f,g,j) C E0 m).1],.int .i64 0])) (.leaf (.tup [.agg [.int .i64 E0,.int .i64 y,.int .i64 z,.int .i64 A,.int .i64 m,.sl (Ty.pair tI (Ty.pair tI (Ty.pair tI tI))) (tstL f (E0,E1,E2,E3,E4,E5)),.sl (Ty.sl tI) g,.int .i64 j,.sl (Ty.pair tI (Ty.pair tI (Ty.pair tI Ty.bool))) u,.int .i64 E0],.int .i64 0])))) (.leaf (.tup [.agg [.int .i64 E0,.int .i64 y,.int .i64 z,.int .i64 A,.int .i64 m,.sl (Ty.pair tI (Ty.pair tI (Ty.pair tI tI))) (tstL f (E0,E1,E2,E3,E4,E5)),.sl (Ty.sl tI) g,.int .i64 j,.sl (Ty.pair tI (Ty.pair tI (Ty.pair tI Ty.bool))) u,.int .i64 E0],.int .i64 0])))) (.leaf (.tup [.agg [.int .i64 E0,.int .i64 y,.int .i64 z,.int .i64 A,.int .i64 m,.sl (Ty.pair tI (Ty.pair tI (Ty.pair tI tI))) (tstL f (E0,E1,E2,E3,E4,E5)),.sl (Ty.sl tI) g,.int .i64 j,.sl (Ty.pair tI (Ty.pair tI (Ty.pair tI Ty.bool))) u,.int .i64 B],.int .i64 0])))))))) (.cond (decide (E1=3)) (.cond false (.leaf (.tup [.agg [.int .i64 0,.int .i64 0,.int .i64 0,.int .i64 0,.int .i64 0,.nils,.nils,.int .i64 0,.nils,.int .i64 0],.int .i64 4])) (.need (sOk (C,y,z,A,m,(f,g,j),u,B)) (.cond (falE f E3 != 0) (.leaf (.tup [.agg [.int .i64 0,.int .i64 0,.int .i64 0,.int .i64 0,.int .i64 0,.nils,.nils,.int .i64 0,.nils,.int .i64 0],.int .i64 (falE f E3)])) (.need (zE (falL f E3,g,j)=0/\u.length<=1000) (.cond (keepS (E0,y,z,A,m,(falL f E3,g,j),u,B) E0) (.leaf (.tup [.agg [.int .i64 E0,.int .i64 y,.int .i64 z,.int .i64 A,.int .i64 m,.sl (Ty.pair tI (Ty.pair tI (Ty.pair tI tI))) (falL f E3),.sl (Ty.sl tI) g,.int .i64 j,.sl (Ty.pair tI (Ty.pair tI (Ty.pair tI Ty.bool))) u,.int .i64 (-1:Int)],.int .i64 0])) (.cond (B==(-1:Int)) (.need (zE (f,g,j)=0) (.cond (brkS (f,g,j) C E0 m).2 (.need (u.length<=1000) (.cond (opnS (C,y,z,A,m,(f,g,j),u,B)) (.leaf (.tup [.agg [.int .i64 E0,.int .i64 y,.int .i64 z,.int .i64 A,.int .i64 m,.sl (Ty.pair tI (Ty.pair tI (Ty.pair tI tI))) (falL f E3),.sl (Ty.sl tI) g,.int .i64 j,.sl (Ty.pair tI (Ty.pair tI (Ty.pair tI Ty.bool))) u,.int .i64 (brkS (f,g,j) C E0 m).1],.int .i64 0])) (.leaf (.tup [.agg [.int .i64 E0,.int .i64 y,.int .i64 z,.int .i64 A,.int .i64 m,.sl (Ty.pair tI (Ty.pair tI (Ty.pair tI tI))) (falL f E3),.sl (Ty.sl tI) g,.int .i64 j,.sl (Ty.pair tI (Ty.pair tI (Ty.pair tI Ty.bool))) u,.int .i64 E0],.int .i64 0])))) (.leaf (.tup [.agg [.int .i64 E0,.int .i64 y,.int .i64 z,.int .i64 A,.int .i64 m,.sl (Ty.pair tI (Ty.pair tI (Ty.pair tI tI))) (falL f E3),.sl (Ty.sl tI) g,.int .i64 j,.sl (Ty.pair tI (Ty.pair tI (Ty.pair tI Ty.bool))) u,.int .i64 E0],.int .i64 0])))) (.leaf (.tup [.agg [.int .i64 E0,.int .i64 y,.int .i64 z,.int .i64 A,.int .i64 m,.sl (Ty.pair tI (Ty.pair tI (Ty.pair tI tI))) (falL f E3),.sl (Ty.sl tI) g,.int .i64 j,.sl (Ty.pair tI (Ty.pair tI (Ty.pair tI Ty.bool))) u,.int .i64 B],.int .i64 0])))))))) (.cond (decide (E1=4)) (.cond false (.leaf (.tup [.agg [.int .i64 0,.int .i64 0,.int .i64 0,.int .i64 0,.int .i64 0,.nils,.nils,.int .i64 0,.nils,.int .i64 0],.int .i64 4])) (.need (sOk (C,y,z,A,m,(f,g,j),u,B)) (.need (zE (remL f E3,g,j)=0/\u.length<=1000) (.cond (remE (C,y,z,A,m,(f,g,j),u,B) (E0,E1,E2,E3,E4,E5) != 0) (.leaf (.tup [.agg [.int .i64 0,.int .i64 0,.int .i64 0,.int .i64 0,.int .i64 0,.nils,.nils,.int .i64 0,.nils,.int .i64 0],.int .i64 (remE (C,y,z,A,m,(f,g,j),u,B) (E0,E1,E2,E3,E4,E5))])) (.need (zE (remL f E3,g,j)=0/\u.length<=1000) (.cond (keepS (E0,y,z,A,m,(remL f E3,g,j),u,B) E0) (.leaf (.tup [.agg [.int .i64 E0,.int .i64 y,.int .i64 z,.int .i64 A,.int .i64 m,.sl (Ty.pair tI (Ty.pair tI (Ty.pair tI tI))) (remL f E3),.sl (Ty.sl tI) g,.int .i64 j,.sl (Ty.pair tI (Ty.pair tI (Ty.pair tI Ty.bool))) u,.int .i64 (-1:Int)],.int .i64 0])) (.cond (B==(-1:Int)) (.need (zE (f,g,j)=0) (.cond (brkS (f,g,j) C E0 m).2 (.need (u.length<=1000) (.cond (opnS (C,y,z,A,m,(f,g,j),u,B)) (.leaf (.tup [.agg [.int .i64 E0,.int .i64 y,.int .i64 z,.int .i64 A,.int .i64 m,.sl (Ty.pair tI (Ty.pair tI (Ty.pair tI tI))) (remL f E3),.sl (Ty.sl tI) g,.int .i64 j,.sl (Ty.pair tI (Ty.pair tI (Ty.pair tI Ty.bool))) u,.int .i64 (brkS (f,g,j) C E0 m).1],.int .i64 0])) (.leaf (.tup [.agg [.int .i64 E0,.int .i64 y,.int .i64 z,.int .i64 A,.int .i64 m,.sl (Ty.pair tI (Ty.pair tI (Ty.pair tI tI))) (remL f E3),.sl (Ty.sl tI) g,.int .i64 j,.sl (Ty.pair tI (Ty.pair tI (Ty.pair tI Ty.bool))) u,.int .i64 E0],.int .i64 0])))) (.leaf (.tup [.agg [.int .i64 E0,.int .i64 y,.int .i64 z,.int .i64 A,.int .i64 m,.sl (Ty.pair tI (Ty.pair tI (Ty.pair tI tI))) (remL f E3),.sl (Ty.sl tI) g,.int .i64 j,.sl (Ty.pair tI (Ty.pair tI (Ty.pair tI Ty.bool))) u,.int .i64 E0],.int .i64 0])))) (.leaf (.tup [.agg [.int .i64 E0,.int .i64 y,.int .i64 z,.int .i64 A,.int .i64 m,.sl (Ty.pair tI (Ty.pair tI (Ty.pair tI tI))) (remL f E3),.sl (Ty.sl tI) g,.int .i64 j,.sl (Ty.pair tI (Ty.pair tI (Ty.pair tI Ty.bool))) u,.int .i64 B],.int .i64 0]))))))))) (.cond (decide (E1=5)) (.cond false (.leaf (.tup [.agg [.int .i64 0,.int .i64 0,.int .i64 0,.int .i64 0,.int .i64 0,.nils,.nils,.int .i64 0,.nils,.int .i64 0],.int .i64 4])) (.need (sOk (C,y,z,A,m,(f,g,j),u,B)) (.need (zE (f,g,j)=0/\u.length<=1000) (.cond (prsE (C,y,z,A,m,(f,g,j),u,B) (E0,E1,E2,E3,E4,E5) != 0) (.leaf (.tup [.agg [.int .i64 0,.int .i64 0,.int .i64 0,.int .i64 0,.int .i64 0,.nils,.nils,.int .i64 0,.nils,.int .i64 0],.int .i64 (prsE (C,y,z,A,m,(f,g,j),u,B) (E0,E1,E2,E3,E4,E5))])) (.need (zE (f,g,j)=0/\u.length<=1000) (.cond (keepS (E0,y,z,A,prsN (C,y,z,A,m,(f,g,j),u,B) (E0,E1,E2,E3,E4,E5),(f,g,j),u,B) E0) (.leaf (.tup [.agg [.int .i64 E0,.int .i64 y,.int .i64 z,.int .i64 A,.int .i64 (prsN (C,y,z,A,m,(f,g,j),u,B) (E0,E1,E2,E3,E4,E5)),.sl (Ty.pair tI (Ty.pair tI (Ty.pair tI tI))) f,.sl (Ty.sl tI) g,.int .i64 j,.sl (Ty.pair tI (Ty.pair tI (Ty.pair tI Ty.bool))) u,.int .i64 (-1:Int)],.int .i64 0])) (.cond (B==(-1:Int)) (.need (zE (f,g,j)=0) (.cond (brkS (f,g,j) C E0 m).2 (.need (u.length<=1000) (.cond (opnS (C,y,z,A,m,(f,g,j),u,B)) (.leaf (.tup [.agg [.int .i64 E0,.int .i64 y,.int .i64 z,.int .i64 A,.int .i64 (prsN (C,y,z,A,m,(f,g,j),u,B) (E0,E1,E2,E3,E4,E5)),.sl (Ty.pair tI (Ty.pair tI (Ty.pair tI tI))) f,.sl (Ty.sl tI) g,.int .i64 j,.sl (Ty.pair tI (Ty.pair tI (Ty.pair tI Ty.bool))) u,.int .i64 (brkS (f,g,j) C E0 m).1],.int .i64 0])) (.leaf (.tup [.agg [.int .i64 E0,.int .i64 y,.int .i64 z,.int .i64 A,.int .i64 (prsN (C,y,z,A,m,(f,g,j),u,B) (E0,E1,E2,E3,E4,E5)),.sl (Ty.pair tI (Ty.pair tI (Ty.pair tI tI))) f,.sl (Ty.sl tI) g,.int .i64 j,.sl (Ty.pair tI (Ty.pair tI (Ty.pair tI Ty.bool))) u,.int .i64 E0],.int .i64 0])))) (.leaf (.tup [.agg [.int .i64 E0,.int .i64 y,.int .i64 z,.int .i64 A,.int .i64 (prsN (C,y,z,A,m,(f,g,j),u,B) (E0,E1,E2,E3,E4,E5)),.sl (Ty.pair tI (Ty.pair tI (Ty.pair tI tI))) f,.sl (Ty.sl tI) g,.int .i64 j,.sl (Ty.pair tI (Ty.pair tI (Ty.pair tI Ty.bool))) u,.int .i64 E0],.int .i64 0])))) (.leaf (.tup [.agg [.int .i64 E0,.int .i64 y,.int .i64 z,.int .i64 A,.int .i64 (prsN (C,y,z,A,m,(f,g,j),u,B) (E0,E1,E2,E3,E4,E5)),.sl (Ty.pair tI (Ty.pair tI (Ty.pair tI tI))) f,.sl (Ty.sl tI) g,.int .i64 j,.sl (Ty.pair tI (Ty.pair tI (Ty.pair tI Ty.bool))) u,.int .i64 B],.int .i64 0]))))))))) (.cond (decide (E1=6)) (.cond false (.leaf (.tup [.agg [.int .i64 0,.int .i64 0,.int .i64 0,.int .i64 0,.int .i64 0,.nils,.nils,.int .i64 0,.nils,.int .i64 0],.int .i64 4])) (.need (sOk (C,y,z,A,m,(f,g,j),u,B)) (.cond (offE (C,y,z,A,m,(f,g,j),u,B) (E0,E1,E2,E3,E4,E5) != 0) (.leaf (.tup [.agg [.int .i64 0,.int .i64 0,.int .i64 0,.int .i64 0,.int .i64 0,.nils,.nils,.int .i64 0,.nils,.int .i64 0],.int .i64 (offE (C,y,z,A,m,(f,g,j),u,B) (E0,E1,E2,E3,E4,E5))])) (.need (zE (f,g,j)=0/\u.length<=1000) (.cond (keepS (E0,y,z,offO (C,y,z,A,m,(f,g,j),u,B) (E0,E1,E2,E3,E4,E5),m,(f,g,j),u,B) E0) (.leaf (.tup [.agg [.int .i64 E0,.int .i64 y,.int .i64 z,.int .i64 (offO (C,y,z,A,m,(f,g,j),u,B) (E0,E1,E2,E3,E4,E5)),.int .i64 m,.sl (Ty.pair tI (Ty.pair tI (Ty.pair tI tI))) f,.sl (Ty.sl tI) g,.int .i64 j,.sl (Ty.pair tI (Ty.pair tI (Ty.pair tI Ty.bool))) u,.int .i64 (-1:Int)],.int .i64 0])) (.cond (B==(-1:Int)) (.need (zE (f,g,j)=0) (.cond (brkS (f,g,j) C E0 m).2 (.need (u.length<=1000) (.cond (opnS (C,y,z,A,m,(f,g,j),u,B)) (.leaf (.tup [.agg [.int .i64 E0,.int .i64 y,.int .i64 z,.int .i64 (offO (C,y,z,A,m,(f,g,j),u,B) (E0,E1,E2,E3,E4,E5)),.int .i64 m,.sl (Ty.pair tI (Ty.pair tI (Ty.pair tI tI))) f,.sl (Ty.sl tI) g,.int .i64 j,.sl (Ty.pair tI (Ty.pair tI (Ty.pair tI Ty.bool))) u,.int .i64 (brkS (f,g,j) C E0 m).1],.int .i64 0])) (.leaf (.tup [.agg [.int .i64 E0,.int .i64 y,.int .i64 z,.int .i64 (offO (C,y,z,A,m,(f,g,j),u,B) (E0,E1,E2,E3,E4,E5)),.int .i64 m,.sl (Ty.pair tI (Ty.pair tI (Ty.pair tI tI))) f,.sl (Ty.sl tI) g,.int .i64 j,.sl (Ty.pair tI (Ty.pair tI (Ty.pair tI Ty.bool))) u,.int .i64 E0],.int .i64 0])))) (.leaf (.tup [.agg [.int .i64 E0,.int .i64 y,.int .i64 z,.int .i64 (offO (C,y,z,A,m,(f,g,j),u,B) (E0,E1,E2,E3,E4,E5)),.int .i64 m,.sl (Ty.pair tI (Ty.pair tI (Ty.pair tI tI))) f,.sl (Ty.sl tI) g,.int .i64 j,.sl (Ty.pair tI (Ty.pair tI (Ty.pair tI Ty.bool))) u,.int .i64 E0],.int .i64 0])))) (.leaf (.tup [.agg [.int .i64 E0,.int .i64 y,.int .i64 z,.int .i64 (offO (C,y,z,A,m,(f,g,j),u,B) (E0,E1,E2,E3,E4,E5)),.int .i64 m,.sl (Ty.pair tI (Ty.pair tI (Ty.pair tI tI))) f,.sl (Ty.sl tI) g,.int .i64 j,.sl (Ty.pair tI (Ty.pair tI (Ty.pair tI Ty.bool))) u,.int .i64 B],.int .i64 0])))))))) (.cond (decide (E1=7)) (.cond false (.leaf (.tup [.agg [.int .i64 0,.int .i64 0,.int .i64 0,.int .i64 0,.int .i64 0,.nils,.nils,.int .i64 0,.nils,.int .i64 0],.int .i64 4])) (.need (sOk (C,y,z,A,m,(f,g,j),u,B)) (.cond (takE (C,y,z,A,m,(f,g,j),u,B) (E0,E1,E2,E3,E4,E5) != 0) (.leaf (.tup [.agg [.int .i64 0,.int .i64 0,.int .i64 0,.int .i64 0,.int .i64 0,.nils,.nils,.int .i64 0,.nils,.int .i64 0],.int .i64 (takE (C,y,z,A,m,(f,g,j),u,B) (E0,E1,E2,E3,E4,E5))])) (.need (zE (f,g,j)=0/\u.length<=1000) (.cond (keepS (E0,y,takH (C,y,z,A,m,(f,g,j),u,B) (E0,E1,E2,E3,E4,E5),takO (C,y,z,A,m,(f,g,j),u,B) (E0,E1,E2,E3,E4,E5),m,(f,g,j),u,B) E0) (.leaf (.tup [.agg [.int .i64 E0,.int .i64 y,.int .i64 (takH (C,y,z,A,m,(f,g,j),u,B) (E0,E1,E2,E3,E4,E5)),.int .i64 (takO (C,y,z,A,m,(f,g,j),u,B) (E0,E1,E2,E3,E4,E5)),.int .i64 m,.sl (Ty.pair tI (Ty.pair tI (Ty.pair tI tI))) f,.sl (Ty.sl tI) g,.int .i64 j,.sl (Ty.pair tI (Ty.pair tI (Ty.pair tI Ty.bool))) u,.int .i64 (-1:Int)],.int .i64 0])) (.cond (B==(-1:Int)) (.need (zE (f,g,j)=0) (.cond (brkS (f,g,j) C E0 m).2 (.need (u.length<=1000) (.cond (opnS (C,y,z,A,m,(f,g,j),u,B)) (.leaf (.tup [.agg [.int .i64 E0,.int .i64 y,.int .i64 (takH (C,y,z,A,m,(f,g,j),u,B) (E0,E1,E2,E3,E4,E5)),.int .i64 (takO (C,y,z,A,m,(f,g,j),u,B) (E0,E1,E2,E3,E4,E5)),.int .i64 m,.sl (Ty.pair tI (Ty.pair tI (Ty.pair tI tI))) f,.sl (Ty.sl tI) g,.int .i64 j,.sl (Ty.pair tI (Ty.pair tI (Ty.pair tI Ty.bool))) u,.int .i64 (brkS (f,g,j) C E0 m).1],.int .i64 0])) (.leaf (.tup [.agg [.int .i64 E0,.int .i64 y,.int .i64 (takH (C,y,z,A,m,(f,g,j),u,B) (E0,E1,E2,E3,E4,E5)),.int .i64 (takO (C,y,z,A,m,(f,g,j),u,B) (E0,E1,E2,E3,E4,E5)),.int .i64 m,.sl (Ty.pair tI (Ty.pair tI (Ty.pair tI tI))) f,.sl (Ty.sl tI) g,.int .i64 j,.sl (Ty.pair tI (Ty.pair tI (Ty.pair tI Ty.bool))) u,.int .i64 E0],.int .i64 0])))) (.leaf (.tup [.agg [.int .i64 E0,.int .i64 y,.int .i64 (takH (C,y,z,A,m,(f,g,j),u,B) (E0,E1,E2,E3,E4,E5)),.int .i64 (takO (C,y,z,A,m,(f,g,j),u,B) (E0,E1,E2,E3,E4,E5)),.int .i64 m,.sl (Ty.pair tI (Ty.pair tI (Ty.pair tI tI))) f,.sl (Ty.sl tI) g,.int .i64 j,.sl (Ty.pair tI (Ty.pair tI (Ty.pair tI Ty.bool))) u,.int .i64 E0],.int .i64 0])))) (.leaf (.tup [.agg [.int .i64 E0,.int .i64 y,.int .i64 (takH (C,y,z,A,m,(f,g,j),u,B) (E0,E1,E2,E3,E4,E5)),.int .i64 (takO (C,y,z,A,m,(f,g,j),u,B) (E0,E1,E2,E3,E4,E5)),.int .i64 m,.sl (Ty.pair tI (Ty.pair tI (Ty.pair tI tI))) f,.sl (Ty.sl tI) g,.int .i64 j,.sl (Ty.pair tI (Ty.pair tI (Ty.pair tI Ty.bool))) u,.int .i64 B],.int .i64 0])))))))) (.cond (decide (E1=8)) (.cond false (.leaf (.tup [.agg [.int .i64 0,.int .i64 0,.int .i64 0,.int .i64 0,.int .i64 0,.nils,.nils,.int .i64 0,.nils,.int .i64 0],.int .i64 4])) (.need (sOk (C,y,z,A,m,(f,g,j),u,B)) (.need (u.length<=1000) (.cond (prmE (C,y,z,A,m,(f,g,j),u,B) (E0,E1,E2,E3,E4,E5) != 0) (.leaf (.tup [.agg [.int .i64 0,.int .i64 0,.int .i64 0,.int .i64 0,.int .i64 0,.nils,.nils,.int .i64 0,.nils,.int .i64 0],.int .i64 (prmE (C,y,z,A,m,(f,g,j),u,B) (E0,E1,E2,E3,E4,E5))])) (.need (zE (f,g,j)=0/\List.length (prmL (C,y,z,A,m,(f,g,j),u,B) (E0,E1,E2,E3,E4,E5))<=1000) (.cond (keepS (E0,y,z,A,m,(f,g,j),prmL (C,y,z,A,m,(f,g,j),u,B) (E0,E1,E2,E3,E4,E5),B) E0) (.leaf (.tup [.agg [.int .i64 E0,.int .i64 y,.int .i64 z,.int .i64 A,.int .i64 m,.sl (Ty.pair tI (Ty.pair tI (Ty.pair tI tI))) f,.sl (Ty.sl tI) g,.int .i64 j,.sl (Ty.pair tI (Ty.pair tI (Ty.pair tI Ty.bool))) (prmL (C,y,z,A,m,(f,g,j),u,B) (E0,E1,E2,E3,E4,E5)),.int .i64 (-1:Int)],.int .i64 0])) (.cond (B==(-1:Int)) (.need (zE (f,g,j)=0) (.cond (brkS (f,g,j) C E0 m).2 (.need (u.length<=1000) (.cond (opnS (C,y,z,A,m,(f,g,j),u,B)) (.leaf (.tup [.agg [.int .i64 E0,.int .i64 y,.int .i64 z,.int .i64 A,.int .i64 m,.sl (Ty.pair tI (Ty.pair tI (Ty.pair tI tI))) f,.sl (Ty.sl tI) g,.int .i64 j,.sl (Ty.pair tI (Ty.pair tI (Ty.pair tI Ty.bool))) (prmL (C,y,z,A,m,(f,g,j),u,B) (E0,E1,E2,E3,E4,E5)),.int .i64 (brkS (f,g,j) C E0 m).1],.int .i64 0])) (.leaf (.tup [.agg [.int .i64 E0,.int .i64 y,.int .i64 z,.int .i64 A,.int .i64 m,.sl (Ty.pair tI (Ty.pair tI (Ty.pair tI tI))) f,.sl (Ty.sl tI) g,.int .i64 j,.sl (Ty.pair tI (Ty.pair tI (Ty.pair tI Ty.bool))) (prmL (C,y,z,A,m,(f,g,j),u,B) (E0,E1,E2,E3,E4,E5)),.int .i64 E0],.int .i64 0])))) (.leaf (.tup [.agg [.int .i64 E0,.int .i64 y,.int .i64 z,.int .i64 A,.int .i64 m,.sl (Ty.pair tI (Ty.pair tI (Ty.pair tI tI))) f,.sl (Ty.sl tI) g,.int .i64 j,.sl (Ty.pair tI (Ty.pair tI (Ty.pair tI Ty.bool))) (prmL (C,y,z,A,m,(f,g,j),u,B) (E0,E1,E2,E3,E4,E5)),.int .i64 E0],.int .i64 0])))) (.leaf (.tup [.agg [.int .i64 E0,.int .i64 y,.int .i64 z,.int .i64 A,.int .i64 m,.sl (Ty.pair tI (Ty.pair tI (Ty.pair tI tI))) f,.sl (Ty.sl tI) g,.int .i64 j,.sl (Ty.pair tI (Ty.pair tI (Ty.pair tI Ty.bool))) (prmL (C,y,z,A,m,(f,g,j),u,B) (E0,E1,E2,E3,E4,E5)),.int .i64 B],.int .i64 0]))))))))) (.cond (decide (E1=9)) (.cond false (.leaf (.tup [.agg [.int .i64 0,.int .i64 0,.int .i64 0,.int .i64 0,.int .i64 0,.nils,.nils,.int .i64 0,.nils,.int .i64 0],.int .i64 4])) (.need (sOk (C,y,z,A,m,(f,g,j),u,B)) (.need ((u.length:Int)<2 ^ 62/\zE (f,g,j)=0) (.cond (staE (C,y,z,A,m,(f,g,j),u,B) (E0,E1,E2,E3,E4,E5) != 0) (.leaf (.tup [.agg [.int .i64 0,.int .i64 0,.int .i64 0,.int .i64 0,.int .i64 0,.nils,.nils,.int .i64 0,.nils,.int .i64 0],.int .i64 (staE (C,y,z,A,m,(f,g,j),u,B) (E0,E1,E2,E3,E4,E5))])) (.need (zE (f,g,j)=0/\List.length (staL (C,y,z,A,m,(f,g,j),u,B) (E0,E1,E2,E3,E4,E5))<=1000) (.cond (keepS (E0,y,z,A,m,(f,g,j),staL (C,y,z,A,m,(f,g,j),u,B) (E0,E1,E2,E3,E4,E5),B) E0) (.leaf (.tup [.agg [.int .i64 E0,.int .i64 y,.int .i64 z,.int .i64 A,.int .i64 m,.sl (Ty.pair tI (Ty.pair tI (Ty.pair tI tI))) f,.sl (Ty.sl tI) g,.int .i64 j,.sl (Ty.pair tI (Ty.pair tI (Ty.pair tI Ty.bool))) (staL (C,y,z,A,m,(f,g,j),u,B) (E0,E1,E2,E3,E4,E5)),.int .i64 (-1:Int)],.int .i64 0])) (.cond (B==(-1:Int)) (.need (zE (f,g,j)=0) (.cond (brkS (f,g,j) C E0 m).2 (.need (u.length<=1000) (.cond (opnS (C,y,z,A,m,(f,g,j),u,B)) (.leaf (.tup [.agg [.int .i64 E0,.int .i64 y,.int .i64 z,.int .i64 A,.int .i64 m,.sl (Ty.pair tI (Ty.pair tI (Ty.pair tI tI))) f,.sl (Ty.sl tI) g,.int .i64 j,.sl (Ty.pair tI (Ty.pair tI (Ty.pair tI Ty.bool))) (staL (C,y,z,A,m,(f,g,j),u,B) (E0,E1,E2,E3,E4,E5)),.int .i64 (brkS (f,g,j) C E0 m).1],.int .i64 0])) (.leaf (.tup [.agg [.int .i64 E0,.int .i64 y,.int .i64 z,.int .i64 A,.int .i64 m,.sl (Ty.pair tI (Ty.pair tI (Ty.pair tI tI))) f,.sl (Ty.sl tI) g,.int .i64 j,.sl (Ty.pair tI (Ty.pair tI (Ty.pair tI Ty.bool))) (staL (C,y,z,A,m,(f,g,j),u,B) (E0,E1,E2,E3,E4,E5)),.int .i64 E0],.int .i64 0])))) (.leaf (.tup [.agg [.int .i64 E0,.int .i64 y,.int .i64 z,.int .i64 A,.int .i64 m,.sl (Ty.pair tI (Ty.pair tI (Ty.pair tI tI))) f,.sl (Ty.sl tI) g,.int .i64 j,.sl (Ty.pair tI (Ty.pair tI (Ty.pair tI Ty.bool))) (staL (C,y,z,A,m,(f,g,j),u,B) (E0,E1,E2,E3,E4,E5)),.int .i64 E0],.int .i64 0])))) (.leaf (.tup [.agg [.int .i64 E0,.int .i64 y,.int .i64 z,.int .i64 A,.int .i64 m,.sl (Ty.pair tI (Ty.pair tI (Ty.pair tI tI))) f,.sl (Ty.sl tI) g,.int .i64 j,.sl (Ty.pair tI (Ty.pair tI (Ty.pair tI Ty.bool))) (staL (C,y,z,A,m,(f,g,j),u,B) (E0,E1,E2,E3,E4,E5)),.int .i64 B],.int .i64 0]))))))))) (.cond (decide (E1=10)) (.cond false (.leaf (.tup [.agg [.int .i64 0,.int .i64 0,.int .i64 0,.int .i64 0,.int .i64 0,.nils,.nils,.int .i64 0,.nils,.int .i64 0],.int .i64 4])) (.need (sOk (C,y,z,A,m,(f,g,j),u,B)) (.need ((u.length:Int)<2 ^ 62) (.cond (stoE (C,y,z,A,m,(f,g,j),u,B) (E0,E1,E2,E3,E4,E5) != 0) (.leaf (.tup [.agg [.int .i64 0,.int .i64 0,.int .i64 0,.int .i64 0,.int .i64 0,.nils,.nils,.int .i64 0,.nils,.int .i64 0],.int .i64 (stoE (C,y,z,A,m,(f,g,j),u,B) (E0,E1,E2,E3,E4,E5))])) (.need (zE (f,g,j)=0/\List.length (stoL (C,y,z,A,m,(f,g,j),u,B) (E0,E1,E2,E3,E4,E5))<=1000) (.cond (keepS (E0,y,z,A,m,(f,g,j),stoL (C,y,z,A,m,(f,g,j),u,B) (E0,E1,E2,E3,E4,E5),B) E0) (.leaf (.tup [.agg [.int .i64 E0,.int .i64 y,.int .i64 z,.int .i64 A,.int .i64 m,.sl (Ty.pair tI (Ty.pair tI (Ty.pair tI tI))) f,.sl (Ty.sl tI) g,.int .i64 j,.sl (Ty.pair tI (Ty.pair tI (Ty.pair tI Ty.bool))) (stoL (C,y,z,A,m,(f,g,j),u,B) (E0,E1,E2,E3,E4,E5)),.int .i64 (-1:Int)],.int .i64 0])) (.cond (B==(-1:Int)) (.need (zE (f,g,j)=0) (.cond (brkS (f,g,j) C E0 m).2 (.need (u.length<=1000) (.cond (opnS (C,y,z,A,m,(f,g,j),u,B)) (.leaf (.tup [.agg [.int .i64 E0,.int .i64 y,.int .i64 z,.int .i64 A,.int .i64 m,.sl (Ty.pair tI (Ty.pair tI (Ty.pair tI tI))) f,.sl (Ty.sl tI) g,.int .i64 j,.sl (Ty.pair tI (Ty.pair tI (Ty.pair tI Ty.bool))) (stoL (C,y,z,A,m,(f,g,j),u,B) (E0,E1,E2,E3,E4,E5)),.int .i64 (brkS (f,g,j) C E0 m).1],.int .i64 0])) (.leaf (.tup [.agg [.int .i64 E0,.int .i64 y,.int .i64 z,.int .i64 A,.int .i64 m,.sl (Ty.pair tI (Ty.pair tI (Ty.pair tI tI))) f,.sl (Ty.sl tI) g,.int .i64 j,.sl (Ty.pair tI (Ty.pair tI (Ty.pair tI Ty.bool))) (stoL (C,y,z,A,m,(f,g,j),u,B) (E0,E1,E2,E3,E4,E5)),.int .i64 E0],.int .i64 0])))) (.leaf (.tup [.agg [.int .i64 E0,.int .i64 y,.int .i64 z,.int .i64 A,.int .i64 m,.sl (Ty.pair tI (Ty.pair tI (Ty.pair tI tI))) f,.sl (Ty.sl tI) g,.int .i64 j,.sl (Ty.pair tI (Ty.pair tI (Ty.pair tI Ty.bool))) (stoL (C,y,z,A,m,(f,g,j),u,B) (E0,E1,E2,E3,E4,E5)),.int .i64 E0],.int .i64 0])))) (.leaf (.tup [.agg [.int .i64 E0,.int .i64 y,.int .i64 z,.int .i64 A,.int .i64 m,.sl (Ty.pair tI (Ty.pair tI (Ty.pair tI tI))) f,.sl (Ty.sl tI) g,.int .i64 j,.sl (Ty.pair tI (Ty.pair tI (Ty.pair tI Ty.bool))) (stoL (C,y,z,A,m,(f,g,j),u,B) (E0,E1,E2,E3,E4,E5)),.int .i64 B],.int .i64 0]))))))))) (.need (findI [((1:Int),(134:FuncId)),((2:Int),(135:FuncId)),((3:Int),(136:FuncId)),((4:Int),(137:FuncId)),((5:Int),(138:FuncId)),((6:Int),(139:FuncId)),((7:Int),(140:FuncId)),((8:Int),(141:FuncId)),((9:Int),(142:FuncId)),((10:Int),(143:FuncId))] E1=none) (.cond true (.leaf (.tup [.agg [.int .i64 0,.int .i64 0,.int .i64 0,.int .i64 0,.int .i64 0,.nils,.nils,.int .i64 0,.nils,.int .i64 0],.int .i64 4])) (.need (sOk (C,y,z,A,m,(f,g,j),u,B)) (Tree.fail 1046)))))))))))))))):=by kernel_rfl
def c_doX:PC P:=PC.of (α:=(Int×(Int×(Int×(Int×(Int×((List (Int×V)×(List (List Int)×Int))×(List (Int×(Int×(Int×Bool)))×Int)))))))×(Int×(Int×(Int×V)))×Unit) 50 [.agg (.pair tI (.pair tI (.pair tI (.pair tI (.pair tI (.pair (.pair (.sl (.pair tI tV)) (.pair (.sl tIs) tI)) (.pair (.sl (.pair tI (.pair tI (.pair tI .bool)))) tI))))))),.agg (.pair tI (.pair tI (.pair tI tV)))] (fun x=>x) (fun x=>x) (fun _=>rfl)
 (fun x=>some (sOk x.1/\zE x.1.2.2.2.2.2.1=0/\x.1.2.2.2.2.2.2.1.length<=900))
 (fun x=>resG (doG x.1 x.2.1)) (by kernel_rfl) (by
  rintro⟨⟨C,⟨y,⟨z,⟨A,⟨m,⟨⟨f,⟨g,j⟩⟩,⟨u,B⟩⟩⟩⟩⟩⟩⟩,⟨E0,⟨E1,⟨E2,⟨E3,⟨E4,E5⟩⟩⟩⟩⟩,⟨⟩⟩ hp
  refine fn_le hm (by kernel_rfl) (by kernel_rfl) (T_doX C y z A m f g j u B E0 E1 E2 E3 E4 E5) trivial (by kernel_rfl) ?_
  try dsimp only at hp
  try dsimp only
  obtain⟨hs,hh,hl9⟩:sOk (C,y,z,A,m,(f,g,j),u,B)/\zE (f,g,j)=0/\u.length<=900:=hp
  have hl:u.length<=1000:=by omega
  have h62:(u.length:Int)<2 ^ 62:=by omega
  have bad:∀n,doG (C,y,z,A,m,(f,g,j),u,B) (E0,E1,E2,E3,E4,E5)=(zSite,n)->LeS (SV.tup [.agg [.int .i64 0,.int .i64 0,.int .i64 0,.int .i64 0,.int .i64 0,.nils,.nils,.int .i64 0,.nils,.int .i64 0],.int .i64 n]) (resG (doG (C,y,z,A,m,(f,g,j),u,B) (E0,E1,E2,E3,E4,E5))):=fun n h=>by
   rw[h];exact leS_bad n
  show Tree.holds (fun x=>LeS x (resG (doG (C,y,z,A,m,(f,g,j),u,B) (E0,E1,E2,E3,E4,E5)))) _
  refine⟨fun c1=>bad _ ?_,fun c1=>⟨fun c2=>bad _ ?_,fun c2=>⟨fun c3=>bad _ ?_,fun c3=>?_⟩⟩⟩
  ·unfold doG;exact if_pos (notT c1)
  ·unfold doG;rw[if_neg (by rw[show wi E0 0 1099511627776=true from notF c1];decide)];exact if_pos (dcT c2)
  ·unfold doG;rw[if_neg (by rw[show wi E0 0 1099511627776=true from notF c1];decide),if_neg (dcF c2)];exact if_pos (notT c3)
  have hw:wi E0 0 1099511627776=true:=notF c1
  have dS:doG (C,y,z,A,m,(f,g,j),u,B) (E0,E1,E2,E3,E4,E5)=if E1<1\/E1>10 then (zSite,4) else if actE (C,y,z,A,m,(f,g,j),u,B) (E0,E1,E2,E3,E4,E5)≠0 then (zSite,actE (C,y,z,A,m,(f,g,j),u,B) (E0,E1,E2,E3,E4,E5)) else (setB (setT (zT (C,y,z,A,m,(f,g,j),u,B) (E0,E1,E2,E3,E4,E5)) E0) (brkN (C,y,z,A,m,(f,g,j),u,B) (E0,E1,E2,E3,E4,E5) (zT (C,y,z,A,m,(f,g,j),u,B) (E0,E1,E2,E3,E4,E5))),0):=by
   unfold doG
   rw[if_neg (by rw[hw];decide),if_neg (dcF c2),if_neg (by rw[show memB y E2=true from notF c3];decide)]
  have bk:∀(n:Int)(t:zX),1<=E1/\E1<=10->actE (C,y,z,A,m,(f,g,j),u,B) (E0,E1,E2,E3,E4,E5)=n->zT (C,y,z,A,m,(f,g,j),u,B) (E0,E1,E2,E3,E4,E5)=t->(n≠0->resG (zSite,n)=resG (doG (C,y,z,A,m,(f,g,j),u,B) (E0,E1,E2,E3,E4,E5)))/\(n=0->resG (setB (setT t E0) (brkN (C,y,z,A,m,(f,g,j),u,B) (E0,E1,E2,E3,E4,E5) t),0)=resG (doG (C,y,z,A,m,(f,g,j),u,B) (E0,E1,E2,E3,E4,E5))):=fun n t h1 h2 h3=>by
   rw[dS,if_neg (by omega),h2,h3]
   exact⟨fun h=>by rw[if_pos h],fun h=>by rw[if_neg (fun k=>k h)]⟩
  refine⟨fun c=>?_,fun k1=>?_⟩
  ·have d:E1=1:=dcT c
   obtain⟨b1,b2⟩:=bk (insE f E3) (setE (C,y,z,A,m,(f,g,j),u,B) (insL f E3)) (by omega) (by unfold actE;dsimp only;rw[if_pos d]) (by unfold zT;dsimp only;rw[if_pos d])
   exact⟨fun h=>(by cases h),fun _=>⟨hs,br_ok (s:=(C,y,z,A,m,(f,g,j),u,B)) (e:=(E0,E1,E2,E3,E4,E5)) (n:=insE f E3) (t:=setE (C,y,z,A,m,(f,g,j),u,B) (insL f E3)) (fun _=>⟨insL_h hh,hl⟩) hh hl b1 b2⟩⟩
  refine⟨fun c=>?_,fun k2=>?_⟩
  ·have d:E1=2:=dcT c
   obtain⟨b1,b2⟩:=bk (tstE f (E0,E1,E2,E3,E4,E5)) (setE (C,y,z,A,m,(f,g,j),u,B) (tstL f (E0,E1,E2,E3,E4,E5))) (by omega) (by unfold actE;dsimp only;rw[if_neg (dcF k1),if_pos d]) (by unfold zT;dsimp only;rw[if_neg (dcF k1),if_pos d])
   exact⟨fun h=>(by cases h),fun _=>⟨hs,br_ok (s:=(C,y,z,A,m,(f,g,j),u,B)) (e:=(E0,E1,E2,E3,E4,E5)) (n:=tstE f (E0,E1,E2,E3,E4,E5)) (t:=setE (C,y,z,A,m,(f,g,j),u,B) (tstL f (E0,E1,E2,E3,E4,E5))) (fun _=>⟨tstL_h hh hw,hl⟩) hh hl b1 b2⟩⟩
  refine⟨fun c=>?_,fun k3=>?_⟩
  ·have d:E1=3:=dcT c
   obtain⟨b1,b2⟩:=bk (falE f E3) (setE (C,y,z,A,m,(f,g,j),u,B) (falL f E3)) (by omega) (by unfold actE;dsimp only;rw[if_neg (dcF k1),if_neg (dcF k2),if_pos d]) (by unfold zT;dsimp only;rw[if_neg (dcF k1),if_neg (dcF k2),if_pos d])
   exact⟨fun h=>(by cases h),fun _=>⟨hs,br_ok (s:=(C,y,z,A,m,(f,g,j),u,B)) (e:=(E0,E1,E2,E3,E4,E5)) (n:=falE f E3) (t:=setE (C,y,z,A,m,(f,g,j),u,B) (falL f E3)) (fun _=>⟨falL_h hh,hl⟩) hh hl b1 b2⟩⟩
  refine⟨fun c=>?_,fun k4=>?_⟩
  ·have d:E1=4:=dcT c
   obtain⟨b1,b2⟩:=bk (remE (C,y,z,A,m,(f,g,j),u,B) (E0,E1,E2,E3,E4,E5)) (setE (C,y,z,A,m,(f,g,j),u,B) (remL f E3)) (by omega) (by unfold actE;dsimp only;rw[if_neg (dcF k1),if_neg (dcF k2),if_neg (dcF k3),if_pos d]) (by unfold zT;dsimp only;rw[if_neg (dcF k1),if_neg (dcF k2),if_neg (dcF k3),if_pos d])
   exact⟨fun h=>(by cases h),fun _=>⟨hs,⟨remL_h hh,hl⟩,br_ok (s:=(C,y,z,A,m,(f,g,j),u,B)) (e:=(E0,E1,E2,E3,E4,E5)) (n:=remE (C,y,z,A,m,(f,g,j),u,B) (E0,E1,E2,E3,E4,E5)) (t:=setE (C,y,z,A,m,(f,g,j),u,B) (remL f E3)) (fun _=>⟨remL_h hh,hl⟩) hh hl b1 b2⟩⟩
  refine⟨fun c=>?_,fun k5=>?_⟩
  ·have d:E1=5:=dcT c
   obtain⟨b1,b2⟩:=bk (prsE (C,y,z,A,m,(f,g,j),u,B) (E0,E1,E2,E3,E4,E5)) (setP (C,y,z,A,m,(f,g,j),u,B) (prsN (C,y,z,A,m,(f,g,j),u,B) (E0,E1,E2,E3,E4,E5))) (by omega) (by unfold actE;dsimp only;rw[if_neg (dcF k1),if_neg (dcF k2),if_neg (dcF k3),if_neg (dcF k4),if_pos d]) (by unfold zT;dsimp only;rw[if_neg (dcF k1),if_neg (dcF k2),if_neg (dcF k3),if_neg (dcF k4),if_pos d])
   exact⟨fun h=>(by cases h),fun _=>⟨hs,⟨hh,hl⟩,br_ok (s:=(C,y,z,A,m,(f,g,j),u,B)) (e:=(E0,E1,E2,E3,E4,E5)) (n:=prsE (C,y,z,A,m,(f,g,j),u,B) (E0,E1,E2,E3,E4,E5)) (t:=setP (C,y,z,A,m,(f,g,j),u,B) (prsN (C,y,z,A,m,(f,g,j),u,B) (E0,E1,E2,E3,E4,E5))) (fun _=>⟨hh,hl⟩) hh hl b1 b2⟩⟩
  refine⟨fun c=>?_,fun k6=>?_⟩
  ·have d:E1=6:=dcT c
   obtain⟨b1,b2⟩:=bk (offE (C,y,z,A,m,(f,g,j),u,B) (E0,E1,E2,E3,E4,E5)) (setC (C,y,z,A,m,(f,g,j),u,B) z (offO (C,y,z,A,m,(f,g,j),u,B) (E0,E1,E2,E3,E4,E5))) (by omega) (by unfold actE;dsimp only;rw[if_neg (dcF k1),if_neg (dcF k2),if_neg (dcF k3),if_neg (dcF k4),if_neg (dcF k5),if_pos d]) (by unfold zT;dsimp only;rw[if_neg (dcF k1),if_neg (dcF k2),if_neg (dcF k3),if_neg (dcF k4),if_neg (dcF k5),if_pos d])
   exact⟨fun h=>(by cases h),fun _=>⟨hs,br_ok (s:=(C,y,z,A,m,(f,g,j),u,B)) (e:=(E0,E1,E2,E3,E4,E5)) (n:=offE (C,y,z,A,m,(f,g,j),u,B) (E0,E1,E2,E3,E4,E5)) (t:=setC (C,y,z,A,m,(f,g,j),u,B) z (offO (C,y,z,A,m,(f,g,j),u,B) (E0,E1,E2,E3,E4,E5))) (fun _=>⟨hh,hl⟩) hh hl b1 b2⟩⟩
  refine⟨fun c=>?_,fun k7=>?_⟩
  ·have d:E1=7:=dcT c
   obtain⟨b1,b2⟩:=bk (takE (C,y,z,A,m,(f,g,j),u,B) (E0,E1,E2,E3,E4,E5)) (setC (C,y,z,A,m,(f,g,j),u,B) (takH (C,y,z,A,m,(f,g,j),u,B) (E0,E1,E2,E3,E4,E5)) (takO (C,y,z,A,m,(f,g,j),u,B) (E0,E1,E2,E3,E4,E5))) (by omega) (by unfold actE;dsimp only;rw[if_neg (dcF k1),if_neg (dcF k2),if_neg (dcF k3),if_neg (dcF k4),if_neg (dcF k5),if_neg (dcF k6),if_pos d]) (by unfold zT;dsimp only;rw[if_neg (dcF k1),if_neg (dcF k2),if_neg (dcF k3),if_neg (dcF k4),if_neg (dcF k5),if_neg (dcF k6),if_pos d])
   exact⟨fun h=>(by cases h),fun _=>⟨hs,br_ok (s:=(C,y,z,A,m,(f,g,j),u,B)) (e:=(E0,E1,E2,E3,E4,E5)) (n:=takE (C,y,z,A,m,(f,g,j),u,B) (E0,E1,E2,E3,E4,E5)) (t:=setC (C,y,z,A,m,(f,g,j),u,B) (takH (C,y,z,A,m,(f,g,j),u,B) (E0,E1,E2,E3,E4,E5)) (takO (C,y,z,A,m,(f,g,j),u,B) (E0,E1,E2,E3,E4,E5))) (fun _=>⟨hh,hl⟩) hh hl b1 b2⟩⟩
  refine⟨fun c=>?_,fun k8=>?_⟩
  ·have d:E1=8:=dcT c
   obtain⟨b1,b2⟩:=bk (prmE (C,y,z,A,m,(f,g,j),u,B) (E0,E1,E2,E3,E4,E5)) (setPm (C,y,z,A,m,(f,g,j),u,B) (prmL (C,y,z,A,m,(f,g,j),u,B) (E0,E1,E2,E3,E4,E5))) (by omega) (by unfold actE;dsimp only;rw[if_neg (dcF k1),if_neg (dcF k2),if_neg (dcF k3),if_neg (dcF k4),if_neg (dcF k5),if_neg (dcF k6),if_neg (dcF k7),if_pos d]) (by unfold zT;dsimp only;rw[if_neg (dcF k1),if_neg (dcF k2),if_neg (dcF k3),if_neg (dcF k4),if_neg (dcF k5),if_neg (dcF k6),if_neg (dcF k7),if_pos d])
   exact⟨fun h=>(by cases h),fun _=>⟨hs,hl,br_ok (s:=(C,y,z,A,m,(f,g,j),u,B)) (e:=(E0,E1,E2,E3,E4,E5)) (n:=prmE (C,y,z,A,m,(f,g,j),u,B) (E0,E1,E2,E3,E4,E5)) (t:=setPm (C,y,z,A,m,(f,g,j),u,B) (prmL (C,y,z,A,m,(f,g,j),u,B) (E0,E1,E2,E3,E4,E5))) (fun _=>⟨hh,by have:=prmL_len (C,y,z,A,m,(f,g,j),u,B) (E0,E1,E2,E3,E4,E5);show (prmL (C,y,z,A,m,(f,g,j),u,B) (E0,E1,E2,E3,E4,E5)).length<=1000;have h9:(prmL (C,y,z,A,m,(f,g,j),u,B) (E0,E1,E2,E3,E4,E5)).length<=u.length+1:=this;omega⟩) hh hl b1 b2⟩⟩
  refine⟨fun c=>?_,fun k9=>?_⟩
  ·have d:E1=9:=dcT c
   obtain⟨b1,b2⟩:=bk (staE (C,y,z,A,m,(f,g,j),u,B) (E0,E1,E2,E3,E4,E5)) (setPm (C,y,z,A,m,(f,g,j),u,B) (staL (C,y,z,A,m,(f,g,j),u,B) (E0,E1,E2,E3,E4,E5))) (by omega) (by unfold actE;dsimp only;rw[if_neg (dcF k1),if_neg (dcF k2),if_neg (dcF k3),if_neg (dcF k4),if_neg (dcF k5),if_neg (dcF k6),if_neg (dcF k7),if_neg (dcF k8),if_pos d]) (by unfold zT;dsimp only;rw[if_neg (dcF k1),if_neg (dcF k2),if_neg (dcF k3),if_neg (dcF k4),if_neg (dcF k5),if_neg (dcF k6),if_neg (dcF k7),if_neg (dcF k8),if_pos d])
   exact⟨fun h=>(by cases h),fun _=>⟨hs,⟨h62,hh⟩,br_ok (s:=(C,y,z,A,m,(f,g,j),u,B)) (e:=(E0,E1,E2,E3,E4,E5)) (n:=staE (C,y,z,A,m,(f,g,j),u,B) (E0,E1,E2,E3,E4,E5)) (t:=setPm (C,y,z,A,m,(f,g,j),u,B) (staL (C,y,z,A,m,(f,g,j),u,B) (E0,E1,E2,E3,E4,E5))) (fun _=>⟨hh,by show (staL (C,y,z,A,m,(f,g,j),u,B) (E0,E1,E2,E3,E4,E5)).length<=1000;rw[staL_len];exact hl⟩) hh hl b1 b2⟩⟩
  refine⟨fun c=>?_,fun k10=>?_⟩
  ·have d:E1=10:=dcT c
   obtain⟨b1,b2⟩:=bk (stoE (C,y,z,A,m,(f,g,j),u,B) (E0,E1,E2,E3,E4,E5)) (setPm (C,y,z,A,m,(f,g,j),u,B) (stoL (C,y,z,A,m,(f,g,j),u,B) (E0,E1,E2,E3,E4,E5))) (by omega) (by unfold actE;dsimp only;rw[if_neg (dcF k1),if_neg (dcF k2),if_neg (dcF k3),if_neg (dcF k4),if_neg (dcF k5),if_neg (dcF k6),if_neg (dcF k7),if_neg (dcF k8),if_neg (dcF k9)]) (by unfold zT;dsimp only;rw[if_neg (dcF k1),if_neg (dcF k2),if_neg (dcF k3),if_neg (dcF k4),if_neg (dcF k5),if_neg (dcF k6),if_neg (dcF k7),if_neg (dcF k8),if_neg (dcF k9)])
   exact⟨fun h=>(by cases h),fun _=>⟨hs,h62,br_ok (s:=(C,y,z,A,m,(f,g,j),u,B)) (e:=(E0,E1,E2,E3,E4,E5)) (n:=stoE (C,y,z,A,m,(f,g,j),u,B) (E0,E1,E2,E3,E4,E5)) (t:=setPm (C,y,z,A,m,(f,g,j),u,B) (stoL (C,y,z,A,m,(f,g,j),u,B) (E0,E1,E2,E3,E4,E5))) (fun _=>⟨hh,by show (stoL (C,y,z,A,m,(f,g,j),u,B) (E0,E1,E2,E3,E4,E5)).length<=1000;rw[stoL_len];exact hl⟩) hh hl b1 b2⟩⟩
  refine⟨findI_none fun p hp=>?_,⟨fun _=>?_,fun h=>(by cases h)⟩⟩
  ·simp only[List.mem_cons,List.not_mem_nil,or_false] at hp
   have:=dcF k1;have:=dcF k2;have:=dcF k3;have:=dcF k4;have:=dcF k5
   have:=dcF k6;have:=dcF k7;have:=dcF k8;have:=dcF k9;have:=dcF k10
   rcases hp with rfl |rfl |rfl |rfl |rfl |rfl |rfl |rfl |rfl |rfl<;>assumption
  ·refine bad 4 ?_
   rw[dS,if_pos]
   have:=dcF k1;have:=dcF k2;have:=dcF k3;have:=dcF k4;have:=dcF k5
   have:=dcF k6;have:=dcF k7;have:=dcF k8;have:=dcF k9;have:=dcF k10
   omega)
end
end Go.MB
