/- Do, as the reference has it. -/
import Derived.Test.YtfhomgggbhjglaaGreatMcE
import Derived.Test.YtfhomgggbhjglaaGreatMcC
import Derived.Test.YtfhomgggbhjglaaGreatMuZ
namespace Go.MB
open Go Go.Sx Go.Proofs
set_option linter.unusedVariables false
set_option linter.unusedSimpArgs false
noncomputable section
def L_rCopyR:Lay:={ slots:=[(0,.agg (.pair tI (.pair tI (.pair tI (.pair tI (.pair tI (.pair (.pair (.sl (.pair tI tV)) (.pair (.sl tIs) tI)) (.pair (.sl (.pair tI (.pair tI (.pair tI .bool)))) tI))))))))] }
theorem T_rCopyR(n o r u m:Int)(f:List (Int×V))(j:List (List Int))(g:Int)(l:List (Int×(Int×(Int×Bool))))(v:Int):jG (P:=P) [] (zH [(0,R_rCopy0)]) Tryz.f15 L_rCopyR true ((n,(o,(r,(u,(m,((f,(j,g)),(l,v))))))),()) =
 Tree.need (f.length*32<=140737488355328) (.need (inv_rCopy0 ((),(),(),0,n,o,r,u,m,f,j,g,l,v,0,0,0,0,0,[],[],0,[],0,f,[],g,())) (.need (l.length*32<=140737488355328) (.leaf { res:=.agg [.int .i64 n,.int .i64 o,.int .i64 r,.int .i64 u,.int .i64 m,.own 100,.own 101,.int .i64 g,.own 102,.int .i64 v],boxes:=[],news:=[.row 47 (Ty.pair tI tV) f,.row 31 tIs j,.row 49 (Ty.pair tI (Ty.pair tI (Ty.pair tI Ty.bool))) l] }))):=by kernel_rfl
def c_rCopyR:MC P:=MC.of (α:=(Int×(Int×(Int×(Int×(Int×((List (Int×V)×(List (List Int)×Int))×(List (Int×(Int×(Int×Bool)))×Int)))))))×Unit) 15 L_rCopyR (fun x=>x) (fun x=>x) (fun _=>rfl)
 (fun x=>some (sOk x.1))
 (fun x=>⟨.agg [.int .i64 x.1.1,.int .i64 x.1.2.1,.int .i64 x.1.2.2.1,.int .i64 x.1.2.2.2.1,.int .i64 x.1.2.2.2.2.1,.own 100,.own 101,.int .i64 x.1.2.2.2.2.2.1.2.2,.own 102,.int .i64 x.1.2.2.2.2.2.2.2],[],[.row 47 tEl x.1.2.2.2.2.2.1.1,.row 31 tIs x.1.2.2.2.2.2.1.2.1,.row 49 tPm x.1.2.2.2.2.2.2.1]⟩) (by kernel_rfl) (by kernel_rfl) (by kernel_rfl) (by
  rintro⟨⟨n,⟨o,⟨r,⟨u,⟨m,⟨⟨f,⟨j,g⟩⟩,⟨l,v⟩⟩⟩⟩⟩⟩⟩,⟨⟩⟩ hp
  refine yG hm (own:=true) (by kernel_rfl) (by kernel_rfl) (by kernel_rfl) (T_rCopyR n o r u m f j g l v) ⟨K_rCopy0,trivial⟩ ?_
  try dsimp only at hp
  try dsimp only
  obtain⟨⟨p1,p2,p3⟩,p4⟩:sOk (n,o,r,u,m,(f,j,g),l,v):=hp
  dsimp only at p1 p2 p3 p4
  exact⟨by omega,⟨by decide,by omega,⟨p2,p3⟩,rfl⟩,by omega,rfl⟩)
theorem brk_lp{h:Hs}(he:zB h=0) {fr to p:Int}(h1:fr<=to) (h2:to<=4398046511104):((xF h fr to p).2=true->(xF h fr to p).1=lpE h fr p/\lpE h fr p<=to)/\((xF h fr to p).2=false->¬ lpE h fr p<to):=by
 obtain⟨a1,a2,a3,a4⟩:=lp_at he (t:=fr) (p:=p) (by omega)
 obtain⟨_,hm⟩:=tks_ok h fr to
 obtain⟨_,hB⟩:=tks_ok h fr 4398046511104
 obtain⟨b1,b2⟩:=brk_ok h fr to p
 have inn:lpE h fr p<=to->lpE h fr p∈zAb h fr to:=fun k=>by
  rcases (hB _).1 a2 with q |⟨e,he,q,q1,_⟩
  ·exact (hm _).2 (.inl q)
  ·exact (hm _).2 (.inr ⟨e,he,q,q1,k⟩)
 constructor
 ·intro c
  obtain⟨r1,r2,r3⟩:=b1 c
  have rg:=brkS_rng h1 c
  have rB:(xF h fr to p).1∈zAb h fr 4398046511104:=by
   rcases (hm _).1 r1 with q |⟨e,he,q,q1,_⟩
   ·exact (hB _).2 (.inl q)
   ·exact (hB _).2 (.inr ⟨e,he,q,q1,by omega⟩)
  have n1:¬ (xF h fr to p).1<lpE h fr p:=fun k=>by rw[a4 _ rB k] at r2;cases r2
  have n2:¬ lpE h fr p<(xF h fr to p).1:=fun k=>by rw[r3 _ (inn (by omega)) k] at a3;cases a3
  omega
 ·intro c k
  rw[(b2 c).2 _ (inn (by omega))] at a3;cases a3
def rtT(s:zE)(e:zN)(t:zE):Tree SV :=
 .need (t.2.2.2.2.2.2.1.length<=1000) (.cond (!wK (fL t e.1)) (leafS (setB (fL t e.1) (-1))) (.need (zB t.2.2.2.2.2.1=0) (.cond (zQ t.2.2.2.2.2.1 e.1 t.2.2.2.2.1) (leafS (setB (fL t e.1) (-1))) (.cond (s.2.2.2.2.2.2.2 != -1) (leafS (setB (fL t e.1) t.2.2.2.2.2.2.2))
  (.need (zB s.2.2.2.2.2.1=0/\0<=s.1/\s.1<=4398046511104) (.need (s.2.2.2.2.2.2.1.length<=1000) (.cond (wK s) (.cond (decide (lpE s.2.2.2.2.2.1 s.1 s.2.2.2.2.1<e.1)) (leafS (setB (fL t e.1) (lpE s.2.2.2.2.2.1 s.1 s.2.2.2.2.1))) (leafS (setB (fL t e.1) e.1))) (leafS (setB (fL t e.1) e.1)))))))))
theorem rt_ok{s:zE}{e:zN}{t:zE}{R:SV}(h1:t.2.2.2.2.2.2.1.length<=1000) (h2:zB t.2.2.2.2.2.1=0) (h3:zB s.2.2.2.2.2.1=0) (h4:0<=s.1/\s.1<=e.1) (h5:e.1<=1099511627776) (h6:s.2.2.2.2.2.2.1.length<=1000) (hb:t.2.2.2.2.2.2.2=s.2.2.2.2.2.2.2) (hR:resG (setB (fL t e.1) (brkN s e t),0)=R):Tree.holds (fun x=>LeS x R) (rtT s e t):=by
 have fin:∀b,brkN s e t=b->LeS (resG (setB (fL t e.1) b,0)) R:=fun b h=>by
  rw[<- hR,h];exact leS_good _
 have kp:jM (fL t e.1) e.1=(!wK (fL t e.1)||zQ t.2.2.2.2.2.1 e.1 t.2.2.2.2.1):=rfl
 obtain⟨q1,q2⟩:=brk_lp h3 (fr:=s.1) (to:=e.1) (p:=s.2.2.2.2.1) h4.2 (by omega)
 unfold brkN at fin
 rw[kp] at fin
 refine⟨h1,fun c1=>fin _ (if_pos (by rw[c1,Bool.true_or])),fun c1=>⟨h2,fun c2=>fin _ (if_pos (by rw[c2,Bool.or_true])),fun c2=>?_⟩⟩
 have nk:¬ (!wK (fL t e.1)||zQ t.2.2.2.2.2.1 e.1 t.2.2.2.2.1)=true:=by rw[c1,c2];decide
 refine⟨fun c3=>fin _ ?_,fun c3=>⟨⟨h3,h4.1,by omega⟩,⟨h6,fun c4=>⟨fun c5=>fin _ ?_,fun c5=>fin _ ?_⟩,fun c4=>fin _ ?_⟩⟩⟩
 ·rw[if_neg nk,if_neg (zAi c3),hb]
 all_goals rw[if_neg nk,if_pos (wF c3)]
 ·have c5:=dcT c5
  cases d:(xF s.2.2.2.2.2.1 s.1 e.1 s.2.2.2.2.1).2 with
  |true=>rw[if_pos ⟨rfl,c4⟩];exact (q1 d).1
  |false=>exact absurd c5 (q2 d)
 ·have c5:=dcF c5
  cases d:(xF s.2.2.2.2.2.1 s.1 e.1 s.2.2.2.2.1).2 with
  |true=>
   rw[if_pos ⟨rfl,c4⟩,(q1 d).1]
   have:=(q1 d).2
   omega
  |false=>rw[if_neg (fun k=>by cases k.1)]
 ·rw[if_neg (fun k=>by rw[c4] at k;cases k.2)]
theorem actS_brk(s:zE)(e:zN):(zK s e).2.2.2.2.2.2.2=s.2.2.2.2.2.2.2:=by
 unfold zK
 repeat' split
 all_goals rfl
theorem doG_bad'{s:zE}{e:zN}(h:dE s e≠0):doG s e=(qJ,dE s e):=by
 unfold dE at *
 unfold doG
 by_cases c1:wi e.1 0 1099511627776=false
 ·rw[if_pos c1,if_pos c1]
 rw[if_neg c1] at h
 rw[if_neg c1,if_neg c1]
 by_cases c2:e.1<s.1
 ·rw[if_pos c2,if_pos c2]
 rw[if_neg c2] at h
 rw[if_neg c2,if_neg c2]
 by_cases c3:vB s.2.1 e.2.2.1=false
 ·rw[if_pos c3,if_pos c3]
 rw[if_neg c3] at h
 rw[if_neg c3,if_neg c3]
 by_cases c4:e.2.1<1\/e.2.1>10
 ·rw[if_pos c4,if_pos c4]
 rw[if_neg c4] at h
 rw[if_neg c4,if_neg c4,if_pos h]
theorem doG_good'{s:zE}{e:zN}(h:dE s e=0):dQ s e=zK s e/\(s.1<=e.1/\e.1<=1099511627776)/\doG s e=(setB (fL (dQ s e) e.1) (brkN s e (dQ s e)),0):=by
 unfold dE at h
 by_cases c1:wi e.1 0 1099511627776=false
 ·rw[if_pos c1] at h;cases h
 rw[if_neg c1] at h
 by_cases c2:e.1<s.1
 ·rw[if_pos c2] at h;cases h
 rw[if_neg c2] at h
 by_cases c3:vB s.2.1 e.2.2.1=false
 ·rw[if_pos c3] at h;cases h
 rw[if_neg c3] at h
 by_cases c4:e.2.1<1\/e.2.1>10
 ·rw[if_pos c4] at h;cases h
 rw[if_neg c4] at h
 have q:dQ s e=zK s e:=by
  unfold dQ
  rw[if_neg c1,if_neg c2,if_neg c3,if_neg c4,actQ_ok h]
 have w:0<=e.1/\e.1<=1099511627776:=by
  rw[<- qZ];simpa using c1
 refine⟨q,⟨by omega,w.2⟩,?_⟩
 rw[q]
 unfold doG
 rw[if_neg c1,if_neg c2,if_neg c3,if_neg c4,if_neg (fun k=>k h)]
theorem newP_ok{s:zE}{e:zN}(h:newP s e):dE s e=0/\dQ s e=kH s (fN (pmN e) s.2.2.2.2.2.2.1):=by
 obtain⟨h1,h2,h3,h4,h5,h6⟩:=h
 have a:jJ s e=0:=by
  unfold jJ
  rw[if_neg (by omega),if_neg (by omega),if_neg (by omega),if_neg (by omega),if_neg (by omega),if_neg (by omega),if_neg (by omega),if_pos h4]
  exact h5
 have b:zK s e=kH s (xH s e):=by
  unfold zK
  rw[if_neg (by omega),if_neg (by omega),if_neg (by omega),if_neg (by omega),if_neg (by omega),if_neg (by omega),if_neg (by omega),if_pos h4]
 have c:xH s e=fN (pmN e) s.2.2.2.2.2.2.1:=by
  unfold xH
  rw[if_pos h5,if_neg (by omega)]
 constructor
 ·unfold dE
  rw[if_neg (by rw[h1];decide),if_neg (by omega),if_neg (by rw[h3];decide),if_neg (by omega)]
  exact a
 ·unfold dQ
  rw[if_neg (by rw[h1];decide),if_neg (by omega),if_neg (by rw[h3];decide),if_neg (by omega),actQ_ok a,b,c]
theorem T_rDo(n o r u m:Int)(f:List (Int×V))(j:List (List Int))(g:Int)(l:List (Int×(Int×(Int×Bool))))(v E0 E1 E2 E3 E4 E5:Int):jD (P:=P) [c_rCheck.gc,c_rCopyR.gc,c_rdone,c_ropenX.gc,c_rHoldsX.gc,c_rlapse.gc] (zH []) Tryz.f17 (z_ 0 [.agg (.pair tI (.pair tI (.pair tI (.pair tI (.pair tI (.pair (.pair (.sl (.pair tI tV)) (.pair (.sl tIs) tI)) (.pair (.sl (.pair tI (.pair tI (.pair tI .bool)))) tI))))))),.agg (.pair tI (.pair tI (.pair tI tV)))] ((n,(o,(r,(u,(m,((f,(j,g)),(l,v))))))),(E0,(E1,(E2,(E3,(E4,E5))))),())) =
 Tree.need (sOk (n,o,r,u,m,(f,j,g),l,v)) (.cond (vY (n,o,r,u,m,(f,j,g),l,v) != 0) (.leaf (.tup [.agg [.int .i64 0,.int .i64 0,.int .i64 0,.int .i64 0,.int .i64 0,.nils,.nils,.int .i64 0,.nils,.int .i64 0],.int .i64 (vY (n,o,r,u,m,(f,j,g),l,v))])) (.need (sOk (n,o,r,u,m,(f,j,g),l,v)) (.cond (decide (newP (n,o,r,u,m,([],[],(0:Int)),l,(0:Int)) (E0,E1,E2,E3,E4,E5))) (.need (l.length<=1000/\newP (n,o,r,u,m,(f,j,g),l,v) (E0,E1,E2,E3,E4,E5)) (.cond false (.leaf (.tup [.agg [.int .i64 0,.int .i64 0,.int .i64 0,.int .i64 0,.int .i64 0,.nils,.nils,.int .i64 0,.nils,.int .i64 0],.int .i64 0])) (.need (List.length (fN (pmN (E0,E1,E2,E3,E4,E5)) l)<=1000) (.cond (!wK (E0,o,r,u,m,(f,j,g),fN (pmN (E0,E1,E2,E3,E4,E5)) l,v)) (.leaf (.tup [.agg [.int .i64 E0,.int .i64 o,.int .i64 r,.int .i64 u,.int .i64 m,.sl (Ty.pair tI (Ty.pair tI (Ty.pair tI tI))) f,.sl (Ty.sl tI) j,.int .i64 g,.sl (Ty.pair tI (Ty.pair tI (Ty.pair tI Ty.bool))) (fN (pmN (E0,E1,E2,E3,E4,E5)) l),.int .i64 (-1:Int)],.int .i64 0])) (.need (zB (f,j,g)=0) (.cond (zQ (f,j,g) E0 m) (.leaf (.tup [.agg [.int .i64 E0,.int .i64 o,.int .i64 r,.int .i64 u,.int .i64 m,.sl (Ty.pair tI (Ty.pair tI (Ty.pair tI tI))) f,.sl (Ty.sl tI) j,.int .i64 g,.sl (Ty.pair tI (Ty.pair tI (Ty.pair tI Ty.bool))) (fN (pmN (E0,E1,E2,E3,E4,E5)) l),.int .i64 (-1:Int)],.int .i64 0])) (.cond (v != (-1:Int)) (.leaf (.tup [.agg [.int .i64 E0,.int .i64 o,.int .i64 r,.int .i64 u,.int .i64 m,.sl (Ty.pair tI (Ty.pair tI (Ty.pair tI tI))) f,.sl (Ty.sl tI) j,.int .i64 g,.sl (Ty.pair tI (Ty.pair tI (Ty.pair tI Ty.bool))) (fN (pmN (E0,E1,E2,E3,E4,E5)) l),.int .i64 v],.int .i64 0])) (.need (zB (f,j,g)=0/\0<=n/\n<=4398046511104) (.need (l.length<=1000) (.cond (wK (n,o,r,u,m,(f,j,g),l,v)) (.cond (decide (lpE (f,j,g) n m<E0)) (.leaf (.tup [.agg [.int .i64 E0,.int .i64 o,.int .i64 r,.int .i64 u,.int .i64 m,.sl (Ty.pair tI (Ty.pair tI (Ty.pair tI tI))) f,.sl (Ty.sl tI) j,.int .i64 g,.sl (Ty.pair tI (Ty.pair tI (Ty.pair tI Ty.bool))) (fN (pmN (E0,E1,E2,E3,E4,E5)) l),.int .i64 (lpE (f,j,g) n m)],.int .i64 0])) (.leaf (.tup [.agg [.int .i64 E0,.int .i64 o,.int .i64 r,.int .i64 u,.int .i64 m,.sl (Ty.pair tI (Ty.pair tI (Ty.pair tI tI))) f,.sl (Ty.sl tI) j,.int .i64 g,.sl (Ty.pair tI (Ty.pair tI (Ty.pair tI Ty.bool))) (fN (pmN (E0,E1,E2,E3,E4,E5)) l),.int .i64 E0],.int .i64 0]))) (.leaf (.tup [.agg [.int .i64 E0,.int .i64 o,.int .i64 r,.int .i64 u,.int .i64 m,.sl (Ty.pair tI (Ty.pair tI (Ty.pair tI tI))) f,.sl (Ty.sl tI) j,.int .i64 g,.sl (Ty.pair tI (Ty.pair tI (Ty.pair tI Ty.bool))) (fN (pmN (E0,E1,E2,E3,E4,E5)) l),.int .i64 E0],.int .i64 0])))))))))))) (.need (zB (f,j,g)=0/\l.length<=1000/\¬newP (n,o,r,u,m,(f,j,g),l,v) (E0,E1,E2,E3,E4,E5)) (.cond (dE (n,o,r,u,m,(f,j,g),l,v) (E0,E1,E2,E3,E4,E5) != 0) (.leaf (.tup [.agg [.int .i64 0,.int .i64 0,.int .i64 0,.int .i64 0,.int .i64 0,.nils,.nils,.int .i64 0,.nils,.int .i64 0],.int .i64 (dE (n,o,r,u,m,(f,j,g),l,v) (E0,E1,E2,E3,E4,E5))])) (.need (List.length (dQ (n,o,r,u,m,(f,j,g),l,v) (E0,E1,E2,E3,E4,E5)).2.2.2.2.2.2.1<=1000) (.cond (!wK (E0,(dQ (n,o,r,u,m,(f,j,g),l,v) (E0,E1,E2,E3,E4,E5)).2)) (.leaf (.tup [.agg [.int .i64 E0,.int .i64 (dQ (n,o,r,u,m,(f,j,g),l,v) (E0,E1,E2,E3,E4,E5)).2.1,.int .i64 (dQ (n,o,r,u,m,(f,j,g),l,v) (E0,E1,E2,E3,E4,E5)).2.2.1,.int .i64 (dQ (n,o,r,u,m,(f,j,g),l,v) (E0,E1,E2,E3,E4,E5)).2.2.2.1,.int .i64 (dQ (n,o,r,u,m,(f,j,g),l,v) (E0,E1,E2,E3,E4,E5)).2.2.2.2.1,.sl (Ty.pair tI (Ty.pair tI (Ty.pair tI tI))) (dQ (n,o,r,u,m,(f,j,g),l,v) (E0,E1,E2,E3,E4,E5)).2.2.2.2.2.1.1,.sl (Ty.sl tI) (dQ (n,o,r,u,m,(f,j,g),l,v) (E0,E1,E2,E3,E4,E5)).2.2.2.2.2.1.2.1,.int .i64 (dQ (n,o,r,u,m,(f,j,g),l,v) (E0,E1,E2,E3,E4,E5)).2.2.2.2.2.1.2.2,.sl (Ty.pair tI (Ty.pair tI (Ty.pair tI Ty.bool))) (dQ (n,o,r,u,m,(f,j,g),l,v) (E0,E1,E2,E3,E4,E5)).2.2.2.2.2.2.1,.int .i64 (-1:Int)],.int .i64 0])) (.need (zB (dQ (n,o,r,u,m,(f,j,g),l,v) (E0,E1,E2,E3,E4,E5)).2.2.2.2.2.1=0) (.cond (zQ (dQ (n,o,r,u,m,(f,j,g),l,v) (E0,E1,E2,E3,E4,E5)).2.2.2.2.2.1 E0 (dQ (n,o,r,u,m,(f,j,g),l,v) (E0,E1,E2,E3,E4,E5)).2.2.2.2.1) (.leaf (.tup [.agg [.int .i64 E0,.int .i64 (dQ (n,o,r,u,m,(f,j,g),l,v) (E0,E1,E2,E3,E4,E5)).2.1,.int .i64 (dQ (n,o,r,u,m,(f,j,g),l,v) (E0,E1,E2,E3,E4,E5)).2.2.1,.int .i64 (dQ (n,o,r,u,m,(f,j,g),l,v) (E0,E1,E2,E3,E4,E5)).2.2.2.1,.int .i64 (dQ (n,o,r,u,m,(f,j,g),l,v) (E0,E1,E2,E3,E4,E5)).2.2.2.2.1,.sl (Ty.pair tI (Ty.pair tI (Ty.pair tI tI))) (dQ (n,o,r,u,m,(f,j,g),l,v) (E0,E1,E2,E3,E4,E5)).2.2.2.2.2.1.1,.sl (Ty.sl tI) (dQ (n,o,r,u,m,(f,j,g),l,v) (E0,E1,E2,E3,E4,E5)).2.2.2.2.2.1.2.1,.int .i64 (dQ (n,o,r,u,m,(f,j,g),l,v) (E0,E1,E2,E3,E4,E5)).2.2.2.2.2.1.2.2,.sl (Ty.pair tI (Ty.pair tI (Ty.pair tI Ty.bool))) (dQ (n,o,r,u,m,(f,j,g),l,v) (E0,E1,E2,E3,E4,E5)).2.2.2.2.2.2.1,.int .i64 (-1:Int)],.int .i64 0])) (.cond (v != (-1:Int)) (.leaf (.tup [.agg [.int .i64 E0,.int .i64 (dQ (n,o,r,u,m,(f,j,g),l,v) (E0,E1,E2,E3,E4,E5)).2.1,.int .i64 (dQ (n,o,r,u,m,(f,j,g),l,v) (E0,E1,E2,E3,E4,E5)).2.2.1,.int .i64 (dQ (n,o,r,u,m,(f,j,g),l,v) (E0,E1,E2,E3,E4,E5)).2.2.2.1,.int .i64 (dQ (n,o,r,u,m,(f,j,g),l,v) (E0,E1,E2,E3,E4,E5)).2.2.2.2.1,.sl (Ty.pair tI (Ty.pair tI (Ty.pair tI tI))) (dQ (n,o,r,u,m,(f,j,g),l,v) (E0,E1,E2,E3,E4,E5)).2.2.2.2.2.1.1,.sl (Ty.sl tI) (dQ (n,o,r,u,m,(f,j,g),l,v) (E0,E1,E2,E3,E4,E5)).2.2.2.2.2.1.2.1,.int .i64 (dQ (n,o,r,u,m,(f,j,g),l,v) (E0,E1,E2,E3,E4,E5)).2.2.2.2.2.1.2.2,.sl (Ty.pair tI (Ty.pair tI (Ty.pair tI Ty.bool))) (dQ (n,o,r,u,m,(f,j,g),l,v) (E0,E1,E2,E3,E4,E5)).2.2.2.2.2.2.1,.int .i64 (dQ (n,o,r,u,m,(f,j,g),l,v) (E0,E1,E2,E3,E4,E5)).2.2.2.2.2.2.2],.int .i64 0])) (.need (zB (f,j,g)=0/\0<=n/\n<=4398046511104) (.need (l.length<=1000) (.cond (wK (n,o,r,u,m,(f,j,g),l,v)) (.cond (decide (lpE (f,j,g) n m<E0)) (.leaf (.tup [.agg [.int .i64 E0,.int .i64 (dQ (n,o,r,u,m,(f,j,g),l,v) (E0,E1,E2,E3,E4,E5)).2.1,.int .i64 (dQ (n,o,r,u,m,(f,j,g),l,v) (E0,E1,E2,E3,E4,E5)).2.2.1,.int .i64 (dQ (n,o,r,u,m,(f,j,g),l,v) (E0,E1,E2,E3,E4,E5)).2.2.2.1,.int .i64 (dQ (n,o,r,u,m,(f,j,g),l,v) (E0,E1,E2,E3,E4,E5)).2.2.2.2.1,.sl (Ty.pair tI (Ty.pair tI (Ty.pair tI tI))) (dQ (n,o,r,u,m,(f,j,g),l,v) (E0,E1,E2,E3,E4,E5)).2.2.2.2.2.1.1,.sl (Ty.sl tI) (dQ (n,o,r,u,m,(f,j,g),l,v) (E0,E1,E2,E3,E4,E5)).2.2.2.2.2.1.2.1,.int .i64 (dQ (n,o,r,u,m,(f,j,g),l,v) (E0,E1,E2,E3,E4,E5)).2.2.2.2.2.1.2.2,.sl (Ty.pair tI (Ty.pair tI (Ty.pair tI Ty.bool))) (dQ (n,o,r,u,m,(f,j,g),l,v) (E0,E1,E2,E3,E4,E5)).2.2.2.2.2.2.1,.int .i64 (lpE (f,j,g) n m)],.int .i64 0])) (.leaf (.tup [.agg [.int .i64 E0,.int .i64 (dQ (n,o,r,u,m,(f,j,g),l,v) (E0,E1,E2,E3,E4,E5)).2.1,.int .i64 (dQ (n,o,r,u,m,(f,j,g),l,v) (E0,E1,E2,E3,E4,E5)).2.2.1,.int .i64 (dQ (n,o,r,u,m,(f,j,g),l,v) (E0,E1,E2,E3,E4,E5)).2.2.2.1,.int .i64 (dQ (n,o,r,u,m,(f,j,g),l,v) (E0,E1,E2,E3,E4,E5)).2.2.2.2.1,.sl (Ty.pair tI (Ty.pair tI (Ty.pair tI tI))) (dQ (n,o,r,u,m,(f,j,g),l,v) (E0,E1,E2,E3,E4,E5)).2.2.2.2.2.1.1,.sl (Ty.sl tI) (dQ (n,o,r,u,m,(f,j,g),l,v) (E0,E1,E2,E3,E4,E5)).2.2.2.2.2.1.2.1,.int .i64 (dQ (n,o,r,u,m,(f,j,g),l,v) (E0,E1,E2,E3,E4,E5)).2.2.2.2.2.1.2.2,.sl (Ty.pair tI (Ty.pair tI (Ty.pair tI Ty.bool))) (dQ (n,o,r,u,m,(f,j,g),l,v) (E0,E1,E2,E3,E4,E5)).2.2.2.2.2.2.1,.int .i64 E0],.int .i64 0]))) (.leaf (.tup [.agg [.int .i64 E0,.int .i64 (dQ (n,o,r,u,m,(f,j,g),l,v) (E0,E1,E2,E3,E4,E5)).2.1,.int .i64 (dQ (n,o,r,u,m,(f,j,g),l,v) (E0,E1,E2,E3,E4,E5)).2.2.1,.int .i64 (dQ (n,o,r,u,m,(f,j,g),l,v) (E0,E1,E2,E3,E4,E5)).2.2.2.1,.int .i64 (dQ (n,o,r,u,m,(f,j,g),l,v) (E0,E1,E2,E3,E4,E5)).2.2.2.2.1,.sl (Ty.pair tI (Ty.pair tI (Ty.pair tI tI))) (dQ (n,o,r,u,m,(f,j,g),l,v) (E0,E1,E2,E3,E4,E5)).2.2.2.2.2.1.1,.sl (Ty.sl tI) (dQ (n,o,r,u,m,(f,j,g),l,v) (E0,E1,E2,E3,E4,E5)).2.2.2.2.2.1.2.1,.int .i64 (dQ (n,o,r,u,m,(f,j,g),l,v) (E0,E1,E2,E3,E4,E5)).2.2.2.2.2.1.2.2,.sl (Ty.pair tI (Ty.pair tI (Ty.pair tI Ty.bool))) (dQ (n,o,r,u,m,(f,j,g),l,v) (E0,E1,E2,E3,E4,E5)).2.2.2.2.2.2.1,.int .i64 E0],.int .i64 0]))))))))))))))):=by kernel_rfl
def c_rDo:PC P:=PC.of (α:=(Int×(Int×(Int×(Int×(Int×((List (Int×V)×(List (List Int)×Int))×(List (Int×(Int×(Int×Bool)))×Int)))))))×(Int×(Int×(Int×V)))×Unit) 17 [.agg (.pair tI (.pair tI (.pair tI (.pair tI (.pair tI (.pair (.pair (.sl (.pair tI tV)) (.pair (.sl tIs) tI)) (.pair (.sl (.pair tI (.pair tI (.pair tI .bool)))) tI))))))),.agg (.pair tI (.pair tI (.pair tI tV)))] (fun x=>x) (fun x=>x) (fun _=>rfl)
 (fun x=>some (sOk x.1/\x.1.2.2.2.2.2.2.1.length<=900))
 (fun x=>resG (dS x.1 x.2.1)) (by kernel_rfl) (by
  rintro⟨⟨n,⟨o,⟨r,⟨u,⟨m,⟨⟨f,⟨j,g⟩⟩,⟨l,v⟩⟩⟩⟩⟩⟩⟩,⟨E0,⟨E1,⟨E2,⟨E3,⟨E4,E5⟩⟩⟩⟩⟩,⟨⟩⟩ hp
  refine fn_le hm (by kernel_rfl) (by kernel_rfl) (T_rDo n o r u m f j g l v E0 E1 E2 E3 E4 E5) trivial (by kernel_rfl) ?_
  try dsimp only at hp
  try dsimp only
  obtain⟨hs,hl9⟩:sOk (n,o,r,u,m,(f,j,g),l,v)/\l.length<=900:=hp
  have hl:l.length<=1000:=by omega
  show Tree.holds (fun x=>LeS x (resG (dS (n,o,r,u,m,(f,j,g),l,v) (E0,E1,E2,E3,E4,E5)))) _
  refine⟨hs,fun c1=>?_,fun c1=>?_⟩
  ·have e:dS (n,o,r,u,m,(f,j,g),l,v) (E0,E1,E2,E3,E4,E5)=(qJ,vY (n,o,r,u,m,(f,j,g),l,v)):=if_pos (zAi c1)
   rw[e]
   exact leS_bad _
  have hc:vY (n,o,r,u,m,(f,j,g),l,v)=0:=wF c1
  have e:dS (n,o,r,u,m,(f,j,g),l,v) (E0,E1,E2,E3,E4,E5)=doG (n,o,r,u,m,(f,j,g),l,v) (E0,E1,E2,E3,E4,E5):=dS_ok hc
  rw[e]
  have hv:=(chkS_all hc).1
  have hh:zB (f,j,g)=0:=hv.hou
  have ht:=hv.num.tick
  have fits:dE (n,o,r,u,m,(f,j,g),l,v) (E0,E1,E2,E3,E4,E5)=0->((dQ (n,o,r,u,m,(f,j,g),l,v) (E0,E1,E2,E3,E4,E5)).2.2.2.2.2.2.1.length<=1000/\zB (dQ (n,o,r,u,m,(f,j,g),l,v) (E0,E1,E2,E3,E4,E5)).2.2.2.2.2.1=0)/\(dQ (n,o,r,u,m,(f,j,g),l,v) (E0,E1,E2,E3,E4,E5)).2.2.2.2.2.2.2=v:=fun h=>by
   obtain⟨g1,g2,g3⟩:=doG_good' h
   have k:=do_ok hc g3
   have kv:=chkS_site k.1
   have k1:zB (dQ (n,o,r,u,m,(f,j,g),l,v) (E0,E1,E2,E3,E4,E5)).2.2.2.2.2.1=0:=(chkS_all k.1).1.hou
   have k2:(dQ (n,o,r,u,m,(f,j,g),l,v) (E0,E1,E2,E3,E4,E5)).2.2.2.2.2.2.1.length<=1000:=kv.sOk.2
   refine⟨⟨k2,k1⟩,?_⟩
   rw[g1]
   exact actS_brk _ _
  refine⟨hs,fun c2=>?_,fun c2=>?_⟩
  ·have hn:newP (n,o,r,u,m,(f,j,g),l,v) (E0,E1,E2,E3,E4,E5):=dcT c2
   obtain⟨n1,n2⟩:=newP_ok hn
   obtain⟨g1,g2,g3⟩:=doG_good' n1
   obtain⟨⟨f1,f2⟩,f3⟩:=fits n1
   refine⟨⟨hl,hn⟩,fun h=>(by cases h),fun _=>?_⟩
   rw[n2] at f1 f2 f3 g3
   exact rt_ok (s:=(n,o,r,u,m,(f,j,g),l,v)) (e:=(E0,E1,E2,E3,E4,E5)) (t:=kH (n,o,r,u,m,(f,j,g),l,v) (fN (pmN (E0,E1,E2,E3,E4,E5)) l)) f1 f2 hh ⟨ht.1,g2.1⟩ g2.2 hl f3 (by rw[g3])
  ·have hn:¬ newP (n,o,r,u,m,(f,j,g),l,v) (E0,E1,E2,E3,E4,E5):=dcF c2
   refine⟨⟨hh,hl,hn⟩,fun c3=>?_,fun c3=>?_⟩
   ·rw[doG_bad' (zAi c3)]
    exact leS_bad _
   ·have n1:=wF c3
    obtain⟨g1,g2,g3⟩:=doG_good' n1
    obtain⟨⟨f1,f2⟩,f3⟩:=fits n1
    exact rt_ok (s:=(n,o,r,u,m,(f,j,g),l,v)) (e:=(E0,E1,E2,E3,E4,E5)) (t:=dQ (n,o,r,u,m,(f,j,g),l,v) (E0,E1,E2,E3,E4,E5)) f1 f2 hh ⟨ht.1,g2.1⟩ g2.2 hl f3 (by rw[g3]))
end
end Go.MB
