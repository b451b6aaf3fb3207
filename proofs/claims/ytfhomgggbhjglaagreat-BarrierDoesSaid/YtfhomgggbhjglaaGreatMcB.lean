/- What an entry does, as the reference has it. -/
import Derived.Test.YtfhomgggbhjglaaGreatMcA
namespace Go.MB
open Go Go.Sx Go.Proofs
set_option linter.unusedVariables false
set_option linter.unusedSimpArgs false
noncomputable section
def yS(s:zE)(e:zN):zE:=if e.2.1=5 then setP s (if kN s e=0 then e.2.2.2.2.2 else s.2.2.2.2.1) else zK s e
theorem actQ_ok{s:zE}{e:zN}(h:jJ s e=0):yS s e=zK s e:=by
 unfold yS
 by_cases c:e.2.1=5
 ·rw[if_pos c]
  have e5:jJ s e=kN s e:=by
   unfold jJ
   rw[if_neg (by omega),if_neg (by omega),if_neg (by omega),if_neg (by omega),if_pos c]
  have a5:zK s e=setP s (prsN s e):=by
   unfold zK
   rw[if_neg (by omega),if_neg (by omega),if_neg (by omega),if_neg (by omega),if_pos c]
  rw[a5,if_pos (e5.symm.trans h)]
  have q:prsQ s e=0:=by
   rw[e5] at h
   unfold kN at h
   by_cases d:prsQ s e=0
   ·exact d
   ·rw[if_pos d] at h;exact h
  unfold prsN
  rw[if_pos q]
 ·rw[if_neg c]
def L_relem:Lay:={ slots:=[(0,.ptr 1 0),(1,.agg jE)],boxes:=[(1,gJ)] }
theorem T_relem(e0 e1 e2 e3 e4 e5:Int)(w v t y u:Int)(g:List E4)(j:List (List Int))(r:Int)(f:List Pm)(z:Int):jG (P:=P) [wV.gc,c_ropenX.gc,c_rHoldsX.gc] (zH []) Tryz.f101 L_relem true ((),(e0,e1,e2,e3,e4,e5),w,v,t,y,u,g,j,r,f,z,()) =
 Tree.cond (decide (e3<0)) (.leaf { res:=.int .i64 2,boxes:=[[.int .i64 w,.int .i64 v,.int .i64 t,.int .i64 y,.int .i64 u,.own 50,.sl tIs j,.int .i64 r,.own 51,.int .i64 z]],news:=[.row 47 tEl g,.row 49 tPm f]++[] }) (.cond (decide (e3>=(g.length:Int))) (.leaf { res:=.int .i64 2,boxes:=[[.int .i64 w,.int .i64 v,.int .i64 t,.int .i64 y,.int .i64 u,.own 50,.sl tIs j,.int .i64 r,.own 51,.int .i64 z]],news:=[.row 47 tEl g,.row 49 tPm f]++[] }) (.need (0<=e3/\e3<(g.length:Int)) (.need (Int.toNat e3<g.length) (.cond ((g.getD e3.toNat (0,0,0,0)).1==1) (.cond (e1==1) (.leaf { res:=.int .i64 10,boxes:=[[.int .i64 w,.int .i64 v,.int .i64 t,.int .i64 y,.int .i64 u,.own 50,.sl tIs j,.int .i64 r,.own 51,.int .i64 z]],news:=[.row 47 tEl g,.row 49 tPm f]++[] }) (.cond (e1==2) (.cond (!wi e5 1 68719476736) (.leaf { res:=.int .i64 2,boxes:=[[.int .i64 w,.int .i64 v,.int .i64 t,.int .i64 y,.int .i64 u,.own 50,.sl tIs j,.int .i64 r,.own 51,.int .i64 z]],news:=[.row 47 tEl g,.row 49 tPm f]++[] }) (.cond (decide (e4<1)) (.leaf { res:=.int .i64 2,boxes:=[[.int .i64 w,.int .i64 v,.int .i64 t,.int .i64 y,.int .i64 u,.own 50,.sl tIs j,.int .i64 r,.own 51,.int .i64 z]],news:=[.row 47 tEl g,.row 49 tPm f]++[] }) (.cond (decide (e4>16777216)) (.leaf { res:=.int .i64 2,boxes:=[[.int .i64 w,.int .i64 v,.int .i64 t,.int .i64 y,.int .i64 u,.own 50,.sl tIs j,.int .i64 r,.own 51,.int .i64 z]],news:=[.row 47 tEl g,.row 49 tPm f]++[] }) (.need (Int.toNat e3<g.length) (.leaf { res:=.int .i64 0,boxes:=[[.int .i64 w,.int .i64 v,.int .i64 t,.int .i64 y,.int .i64 u,.own 50,.sl tIs j,.int .i64 r,.own 51,.int .i64 z]],news:=[.row 47 tEl (List.set g e3.toNat ((2:Int),e5,e0,IntKind.i64.wrap (e0+e4))),.row 49 tPm f]++[] }))))) (.cond (e1==3) (.need (Int.toNat e3<g.length) (.leaf { res:=.int .i64 0,boxes:=[[.int .i64 w,.int .i64 v,.int .i64 t,.int .i64 y,.int .i64 u,.own 50,.sl tIs j,.int .i64 r,.own 51,.int .i64 z]],news:=[.row 47 tEl (List.set g e3.toNat ((3:Int),(g.getD e3.toNat (0,0,0,0)).2)),.row 49 tPm f]++[] })) (.cond (e1==4) (.need (Int.toNat e3<g.length) (.cond ((g.getD e3.toNat (0,0,0,0)).1==0) (.leaf { res:=.int .i64 10,boxes:=[[.int .i64 w,.int .i64 v,.int .i64 t,.int .i64 y,.int .i64 u,.own 50,.sl tIs j,.int .i64 r,.own 51,.int .i64 z]],news:=[.row 47 tEl g,.row 49 tPm f]++[] }) (.need (Int.toNat e3<g.length) (.need (f.length<=1000) (.cond (wK (w,v,t,y,u,(List.set g e3.toNat ((0:Int),(0:Int),(0:Int),(0:Int)),j,r),f,z)) (.need (zB (List.set g e3.toNat ((0:Int),(0:Int),(0:Int),(0:Int)),j,r)=0) (.cond (!zQ (List.set g e3.toNat ((0:Int),(0:Int),(0:Int),(0:Int)),j,r) e0 u) (.leaf { res:=.int .i64 15,boxes:=[[.int .i64 w,.int .i64 v,.int .i64 t,.int .i64 y,.int .i64 u,.own 50,.sl tIs j,.int .i64 r,.own 51,.int .i64 z]],news:=[.row 47 tEl (List.set g e3.toNat ((0:Int),(0:Int),(0:Int),(0:Int))),.row 49 tPm f]++[] }) (.leaf { res:=.int .i64 0,boxes:=[[.int .i64 w,.int .i64 v,.int .i64 t,.int .i64 y,.int .i64 u,.own 50,.sl tIs j,.int .i64 r,.own 51,.int .i64 z]],news:=[.row 47 tEl (List.set g e3.toNat ((0:Int),(0:Int),(0:Int),(0:Int))),.row 49 tPm f]++[] }))) (.leaf { res:=.int .i64 0,boxes:=[[.int .i64 w,.int .i64 v,.int .i64 t,.int .i64 y,.int .i64 u,.own 50,.sl tIs j,.int .i64 r,.own 51,.int .i64 z]],news:=[.row 47 tEl (List.set g e3.toNat ((0:Int),(0:Int),(0:Int),(0:Int))),.row 49 tPm f]++[] })))))) (.leaf { res:=.int .i64 0,boxes:=[[.int .i64 w,.int .i64 v,.int .i64 t,.int .i64 y,.int .i64 u,.own 50,.sl tIs j,.int .i64 r,.own 51,.int .i64 z]],news:=[.row 47 tEl g,.row 49 tPm f]++[] }))))) (.need (Int.toNat e3<g.length) (.cond (e1==1) (.cond ((g.getD e3.toNat (0,0,0,0)).1==2) (.leaf { res:=.int .i64 10,boxes:=[[.int .i64 w,.int .i64 v,.int .i64 t,.int .i64 y,.int .i64 u,.own 50,.sl tIs j,.int .i64 r,.own 51,.int .i64 z]],news:=[.row 47 tEl g,.row 49 tPm f]++[] }) (.need (Int.toNat e3<g.length) (.leaf { res:=.int .i64 0,boxes:=[[.int .i64 w,.int .i64 v,.int .i64 t,.int .i64 y,.int .i64 u,.own 50,.sl tIs j,.int .i64 r,.own 51,.int .i64 z]],news:=[.row 47 tEl (List.set g e3.toNat ((1:Int),(0:Int),(0:Int),(0:Int))),.row 49 tPm f]++[] }))) (.cond (e1==2) (.cond (!wi e5 1 68719476736) (.leaf { res:=.int .i64 2,boxes:=[[.int .i64 w,.int .i64 v,.int .i64 t,.int .i64 y,.int .i64 u,.own 50,.sl tIs j,.int .i64 r,.own 51,.int .i64 z]],news:=[.row 47 tEl g,.row 49 tPm f]++[] }) (.cond (decide (e4<1)) (.leaf { res:=.int .i64 2,boxes:=[[.int .i64 w,.int .i64 v,.int .i64 t,.int .i64 y,.int .i64 u,.own 50,.sl tIs j,.int .i64 r,.own 51,.int .i64 z]],news:=[.row 47 tEl g,.row 49 tPm f]++[] }) (.cond (decide (e4>16777216)) (.leaf { res:=.int .i64 2,boxes:=[[.int .i64 w,.int .i64 v,.int .i64 t,.int .i64 y,.int .i64 u,.own 50,.sl tIs j,.int .i64 r,.own 51,.int .i64 z]],news:=[.row 47 tEl g,.row 49 tPm f]++[] }) (.cond (!(g.getD e3.toNat (0,0,0,0)).1==2) (.leaf { res:=.int .i64 10,boxes:=[[.int .i64 w,.int .i64 v,.int .i64 t,.int .i64 y,.int .i64 u,.own 50,.sl tIs j,.int .i64 r,.own 51,.int .i64 z]],news:=[.row 47 tEl g,.row 49 tPm f]++[] }) (.need (Int.toNat e3<g.length) (.leaf { res:=.int .i64 0,boxes:=[[.int .i64 w,.int .i64 v,.int .i64 t,.int .i64 y,.int .i64 u,.own 50,.sl tIs j,.int .i64 r,.own 51,.int .i64 z]],news:=[.row 47 tEl (List.set g e3.toNat ((2:Int),e5,e0,IntKind.i64.wrap (e0+e4))),.row 49 tPm f]++[] })))))) (.cond (e1==3) (.cond (!(g.getD e3.toNat (0,0,0,0)).1==2) (.leaf { res:=.int .i64 10,boxes:=[[.int .i64 w,.int .i64 v,.int .i64 t,.int .i64 y,.int .i64 u,.own 50,.sl tIs j,.int .i64 r,.own 51,.int .i64 z]],news:=[.row 47 tEl g,.row 49 tPm f]++[] }) (.need (Int.toNat e3<g.length) (.leaf { res:=.int .i64 0,boxes:=[[.int .i64 w,.int .i64 v,.int .i64 t,.int .i64 y,.int .i64 u,.own 50,.sl tIs j,.int .i64 r,.own 51,.int .i64 z]],news:=[.row 47 tEl (List.set g e3.toNat ((3:Int),(g.getD e3.toNat (0,0,0,0)).2)),.row 49 tPm f]++[] }))) (.cond (e1==4) (.need (Int.toNat e3<g.length) (.cond ((g.getD e3.toNat (0,0,0,0)).1==0) (.leaf { res:=.int .i64 10,boxes:=[[.int .i64 w,.int .i64 v,.int .i64 t,.int .i64 y,.int .i64 u,.own 50,.sl tIs j,.int .i64 r,.own 51,.int .i64 z]],news:=[.row 47 tEl g,.row 49 tPm f]++[] }) (.need (Int.toNat e3<g.length) (.need (f.length<=1000) (.cond (wK (w,v,t,y,u,(List.set g e3.toNat ((0:Int),(0:Int),(0:Int),(0:Int)),j,r),f,z)) (.need (zB (List.set g e3.toNat ((0:Int),(0:Int),(0:Int),(0:Int)),j,r)=0) (.cond (!zQ (List.set g e3.toNat ((0:Int),(0:Int),(0:Int),(0:Int)),j,r) e0 u) (.leaf { res:=.int .i64 15,boxes:=[[.int .i64 w,.int .i64 v,.int .i64 t,.int .i64 y,.int .i64 u,.own 50,.sl tIs j,.int .i64 r,.own 51,.int .i64 z]],news:=[.row 47 tEl (List.set g e3.toNat ((0:Int),(0:Int),(0:Int),(0:Int))),.row 49 tPm f]++[] }) (.leaf { res:=.int .i64 0,boxes:=[[.int .i64 w,.int .i64 v,.int .i64 t,.int .i64 y,.int .i64 u,.own 50,.sl tIs j,.int .i64 r,.own 51,.int .i64 z]],news:=[.row 47 tEl (List.set g e3.toNat ((0:Int),(0:Int),(0:Int),(0:Int))),.row 49 tPm f]++[] }))) (.leaf { res:=.int .i64 0,boxes:=[[.int .i64 w,.int .i64 v,.int .i64 t,.int .i64 y,.int .i64 u,.own 50,.sl tIs j,.int .i64 r,.own 51,.int .i64 z]],news:=[.row 47 tEl (List.set g e3.toNat ((0:Int),(0:Int),(0:Int),(0:Int))),.row 49 tPm f]++[] })))))) (.leaf { res:=.int .i64 0,boxes:=[[.int .i64 w,.int .i64 v,.int .i64 t,.int .i64 y,.int .i64 u,.own 50,.sl tIs j,.int .i64 r,.own 51,.int .i64 z]],news:=[.row 47 tEl g,.row 49 tPm f]++[] })))))))))):=by kernel_rfl
abbrev AcB1:Type:=Unit×zN×Int×Int×Int×Int×Int×List E4×List (List Int)×Int×List Pm×Int×Unit
def c_relem:MC P:=MC.of (α:=AcB1) 101 L_relem (fun x=>x) (fun x=>x) (fun _=>rfl)
 (fun(_,e,_,_,_,_,_,g,j,r,f,_)=>some ((1<=e.2.1/\e.2.1<=4)/\zB (g,j,r)=0/\f.length<=1000))
 (fun(_,e,w,v,t,y,u,g,j,r,f,z,_)=>⟨.int .i64 (jJ (w,v,t,y,u,(g,j,r),f,z) e),[zV (zK (w,v,t,y,u,(g,j,r),f,z) e)],zW (zK (w,v,t,y,u,(g,j,r),f,z) e)⟩) (by kernel_rfl) (by kernel_rfl) (by kernel_rfl) (by
  rintro⟨⟨⟩,⟨e0,e1,e2,e3,e4,e5⟩,w,v,t,y,u,g,j,r,f,z,⟨⟩⟩ hp
  refine yG hm (own:=true) (by kernel_rfl) (by kernel_rfl) (by kernel_rfl) (T_relem e0 e1 e2 e3 e4 e5 w v t y u g j r f z) trivial ?_
  obtain⟨⟨q1,q2⟩,p1,p2⟩:(1<=e1/\e1<=4)/\zB (g,j,r)=0/\f.length<=1000:=hp
  have fin:∀(m:Int)(l:List E4),jJ (w,v,t,y,u,(g,j,r),f,z) (e0,e1,e2,e3,e4,e5)=m->zK (w,v,t,y,u,(g,j,r),f,z) (e0,e1,e2,e3,e4,e5)=setE (w,v,t,y,u,(g,j,r),f,z) l->(⟨.int .i64 m,[zV (w,v,t,y,u,(l,j,r),f,z)],zW (w,v,t,y,u,(l,j,r),f,z)⟩:MOut)=⟨.int .i64 (jJ (w,v,t,y,u,(g,j,r),f,z) (e0,e1,e2,e3,e4,e5)),[zV (zK (w,v,t,y,u,(g,j,r),f,z) (e0,e1,e2,e3,e4,e5))],zW (zK (w,v,t,y,u,(g,j,r),f,z) (e0,e1,e2,e3,e4,e5))⟩:=fun m l h1 h2=>by rw[h1,h2];rfl
  have k1:e1=1->jJ (w,v,t,y,u,(g,j,r),f,z) (e0,e1,e2,e3,e4,e5)=zAg g e3/\zK (w,v,t,y,u,(g,j,r),f,z) (e0,e1,e2,e3,e4,e5)=setE (w,v,t,y,u,(g,j,r),f,z) (zAf g e3):=fun h=>by subst h;exact⟨rfl,rfl⟩
  have k2:e1=2->jJ (w,v,t,y,u,(g,j,r),f,z) (e0,e1,e2,e3,e4,e5)=tstE g (e0,e1,e2,e3,e4,e5)/\zK (w,v,t,y,u,(g,j,r),f,z) (e0,e1,e2,e3,e4,e5)=setE (w,v,t,y,u,(g,j,r),f,z) (tstL g (e0,e1,e2,e3,e4,e5)):=fun h=>by subst h;exact⟨rfl,rfl⟩
  have k3:e1=3->jJ (w,v,t,y,u,(g,j,r),f,z) (e0,e1,e2,e3,e4,e5)=falE g e3/\zK (w,v,t,y,u,(g,j,r),f,z) (e0,e1,e2,e3,e4,e5)=setE (w,v,t,y,u,(g,j,r),f,z) (falL g e3):=fun h=>by subst h;exact⟨rfl,rfl⟩
  have k4:e1=4->jJ (w,v,t,y,u,(g,j,r),f,z) (e0,e1,e2,e3,e4,e5)=remE (w,v,t,y,u,(g,j,r),f,z) (e0,e1,e2,e3,e4,e5)/\zK (w,v,t,y,u,(g,j,r),f,z) (e0,e1,e2,e3,e4,e5)=setE (w,v,t,y,u,(g,j,r),f,z) (pU g e3):=fun h=>by subst h;exact⟨rfl,rfl⟩
  have b1:e1=1->∀n,n≠0->zAg g e3=n->(⟨.int .i64 n,[zV (w,v,t,y,u,(g,j,r),f,z)],zW (w,v,t,y,u,(g,j,r),f,z)⟩:MOut)=⟨.int .i64 (jJ (w,v,t,y,u,(g,j,r),f,z) (e0,e1,e2,e3,e4,e5)),[zV (zK (w,v,t,y,u,(g,j,r),f,z) (e0,e1,e2,e3,e4,e5))],zW (zK (w,v,t,y,u,(g,j,r),f,z) (e0,e1,e2,e3,e4,e5))⟩:=fun h n h0 hn=>fin n g ((k1 h).1.trans hn) ((k1 h).2.trans (by unfold zAf;rw[hn,if_neg h0]))
  have b2:e1=2->∀n,n≠0->tstE g (e0,e1,e2,e3,e4,e5)=n->(⟨.int .i64 n,[zV (w,v,t,y,u,(g,j,r),f,z)],zW (w,v,t,y,u,(g,j,r),f,z)⟩:MOut)=⟨.int .i64 (jJ (w,v,t,y,u,(g,j,r),f,z) (e0,e1,e2,e3,e4,e5)),[zV (zK (w,v,t,y,u,(g,j,r),f,z) (e0,e1,e2,e3,e4,e5))],zW (zK (w,v,t,y,u,(g,j,r),f,z) (e0,e1,e2,e3,e4,e5))⟩:=fun h n h0 hn=>fin n g ((k2 h).1.trans hn) ((k2 h).2.trans (by unfold tstL;rw[hn,if_neg h0]))
  have b3:e1=3->∀n,n≠0->falE g e3=n->(⟨.int .i64 n,[zV (w,v,t,y,u,(g,j,r),f,z)],zW (w,v,t,y,u,(g,j,r),f,z)⟩:MOut)=⟨.int .i64 (jJ (w,v,t,y,u,(g,j,r),f,z) (e0,e1,e2,e3,e4,e5)),[zV (zK (w,v,t,y,u,(g,j,r),f,z) (e0,e1,e2,e3,e4,e5))],zW (zK (w,v,t,y,u,(g,j,r),f,z) (e0,e1,e2,e3,e4,e5))⟩:=fun h n h0 hn=>fin n g ((k3 h).1.trans hn) ((k3 h).2.trans (by unfold falL;rw[hn,if_neg h0]))
  have b4:e1=4->∀n,n≠0->zAe g e3=n->(⟨.int .i64 n,[zV (w,v,t,y,u,(g,j,r),f,z)],zW (w,v,t,y,u,(g,j,r),f,z)⟩:MOut)=⟨.int .i64 (jJ (w,v,t,y,u,(g,j,r),f,z) (e0,e1,e2,e3,e4,e5)),[zV (zK (w,v,t,y,u,(g,j,r),f,z) (e0,e1,e2,e3,e4,e5))],zW (zK (w,v,t,y,u,(g,j,r),f,z) (e0,e1,e2,e3,e4,e5))⟩:=fun h n h0 hn=>fin n g ((k4 h).1.trans (by unfold remE;exact (if_pos (by rw[show zAe (g,j,r).1 e3=zAe g e3 from rfl,hn];exact h0)).trans hn)) ((k4 h).2.trans (by unfold pU;rw[hn,if_neg h0]))
  have g1:e1=1->zAg g e3=0->(⟨.int .i64 0,[zV (w,v,t,y,u,((g.set e3.toNat (1,0,0,0)),j,r),f,z)],zW (w,v,t,y,u,((g.set e3.toNat (1,0,0,0)),j,r),f,z)⟩:MOut)=⟨.int .i64 (jJ (w,v,t,y,u,(g,j,r),f,z) (e0,e1,e2,e3,e4,e5)),[zV (zK (w,v,t,y,u,(g,j,r),f,z) (e0,e1,e2,e3,e4,e5))],zW (zK (w,v,t,y,u,(g,j,r),f,z) (e0,e1,e2,e3,e4,e5))⟩:=fun h hn=>fin 0 _ ((k1 h).1.trans hn) ((k1 h).2.trans (by unfold zAf;rw[if_pos hn]))
  have g2:e1=2->tstE g (e0,e1,e2,e3,e4,e5)=0->(⟨.int .i64 0,[zV (w,v,t,y,u,((g.set e3.toNat (2,e5,e0,IntKind.i64.wrap (e0+e4))),j,r),f,z)],zW (w,v,t,y,u,((g.set e3.toNat (2,e5,e0,IntKind.i64.wrap (e0+e4))),j,r),f,z)⟩:MOut)=⟨.int .i64 (jJ (w,v,t,y,u,(g,j,r),f,z) (e0,e1,e2,e3,e4,e5)),[zV (zK (w,v,t,y,u,(g,j,r),f,z) (e0,e1,e2,e3,e4,e5))],zW (zK (w,v,t,y,u,(g,j,r),f,z) (e0,e1,e2,e3,e4,e5))⟩:=fun h hn=>fin 0 _ ((k2 h).1.trans hn) ((k2 h).2.trans (by unfold tstL;rw[if_pos hn]))
  have g3:e1=3->falE g e3=0->(⟨.int .i64 0,[zV (w,v,t,y,u,((g.set e3.toNat (3,(gEl g e3).2.1,(gEl g e3).2.2.1,(gEl g e3).2.2.2)),j,r),f,z)],zW (w,v,t,y,u,((g.set e3.toNat (3,(gEl g e3).2.1,(gEl g e3).2.2.1,(gEl g e3).2.2.2)),j,r),f,z)⟩:MOut)=⟨.int .i64 (jJ (w,v,t,y,u,(g,j,r),f,z) (e0,e1,e2,e3,e4,e5)),[zV (zK (w,v,t,y,u,(g,j,r),f,z) (e0,e1,e2,e3,e4,e5))],zW (zK (w,v,t,y,u,(g,j,r),f,z) (e0,e1,e2,e3,e4,e5))⟩:=fun h hn=>fin 0 _ ((k3 h).1.trans hn) ((k3 h).2.trans (by unfold falL;rw[if_pos hn]))
  have rl:zAe g e3=0->pU g e3=g.set e3.toNat (0,0,0,0):=fun hn=>by unfold pU;rw[if_pos hn]
  have g4:e1=4->zAe g e3=0->∀m:Int,(if jM (setE (w,v,t,y,u,(g,j,r),f,z) (g.set e3.toNat (0,0,0,0))) e0=false then 15 else 0)=m->(⟨.int .i64 m,[zV (w,v,t,y,u,((g.set e3.toNat (0,0,0,0)),j,r),f,z)],zW (w,v,t,y,u,((g.set e3.toNat (0,0,0,0)),j,r),f,z)⟩:MOut)=⟨.int .i64 (jJ (w,v,t,y,u,(g,j,r),f,z) (e0,e1,e2,e3,e4,e5)),[zV (zK (w,v,t,y,u,(g,j,r),f,z) (e0,e1,e2,e3,e4,e5))],zW (zK (w,v,t,y,u,(g,j,r),f,z) (e0,e1,e2,e3,e4,e5))⟩:=fun h hn m hm=>fin m _ ((k4 h).1.trans (by
   unfold remE
   rw[if_neg (by rw[show zAe (w,v,t,y,u,(g,j,r),f,z).2.2.2.2.2.1.1 (e0,e1,e2,e3,e4,e5).2.2.2.1=zAe g e3 from rfl,hn];exact fun k=>k rfl),<- hm,<- rl hn])) ((k4 h).2.trans (by rw[rl hn]))
  have kp:jM (setE (w,v,t,y,u,(g,j,r),f,z) (g.set e3.toNat (0,0,0,0))) e0=(!wK (w,v,t,y,u,(g,j,r),f,z)||zQ (g.set e3.toNat (0,0,0,0),j,r) e0 u):=rfl
  have hrem:zAe g e3=0->zB (g.set e3.toNat (0,0,0,0),j,r)=0:=fun hn=>by
   have:=remL_h (a:=e3) p1
   rw[rl hn] at this;exact this
  have out:(e3<0\/e3>=(g.length:Int))->(⟨.int .i64 2,[zV (w,v,t,y,u,(g,j,r),f,z)],zW (w,v,t,y,u,(g,j,r),f,z)⟩:MOut)=⟨.int .i64 (jJ (w,v,t,y,u,(g,j,r),f,z) (e0,e1,e2,e3,e4,e5)),[zV (zK (w,v,t,y,u,(g,j,r),f,z) (e0,e1,e2,e3,e4,e5))],zW (zK (w,v,t,y,u,(g,j,r),f,z) (e0,e1,e2,e3,e4,e5))⟩:=fun h=>by
   have nr:¬ xQ g.length e3:=fun k=>by have k1:=k.1;have k2:=k.2;omega
   have hc:e1=1\/e1=2\/e1=3\/e1=4:=by omega
   rcases hc with h |h |h |h
   ·exact b1 h 2 (by decide) (by unfold zAg;rw[if_pos nr])
   ·exact b2 h 2 (by decide) (by unfold tstE;rw[if_pos nr])
   ·exact b3 h 2 (by decide) (by unfold falE;rw[if_pos nr])
   ·exact b4 h 2 (by decide) (by unfold zAe;rw[if_pos nr])
  refine⟨fun c1=>out (.inl (dcT c1)),fun c1=>⟨fun c2=>out (.inr (dcT c2)),fun c2=>?_⟩⟩
  have c1:=dcF c1
  have c2:=dcF c2
  have hr:0<=e3/\e3<(g.length:Int):=⟨by omega,by omega⟩
  have hn:e3.toNat<g.length:=by omega
  have hst:0<=(gEl g e3).1/\(gEl g e3).1<=3:=by
   exact (elE_iff.1 ((yD p1).el (gEl g e3) (by unfold gEl;exact jT hn))).1
  have nr:¬ ¬ xQ g.length e3:=fun k=>k hr
  have alv:∀b,alvB (gEl g e3)=b↔((gEl g e3).1==1||(gEl g e3).1==2)=b:=fun b=>Iff.rfl
  have tst:∀n:Int,(if wi e5 1 68719476736=false then 2 else if e4<1 then 2 else if e4>16777216 then 2 else if alvB (gEl g e3)=false then 10 else 0)=n->tstE g (e0,e1,e2,e3,e4,e5)=n:=fun n h=>by
   unfold tstE;rw[if_neg nr];exact h
  have fal:∀n:Int,(if alvB (gEl g e3)=false then 10 else 0)=n->falE g e3=n:=fun n h=>by
   unfold falE;rw[if_neg nr];exact h
  have rem:∀n:Int,(if (gEl g e3).1=0 then 10 else 0)=n->zAe g e3=n:=fun n h=>by
   unfold zAe;rw[if_neg nr];exact h
  have ins:∀n:Int,(if (gEl g e3).1≠0/\(gEl g e3).1≠3 then 10 else 0)=n->zAg g e3=n:=fun n h=>by
   unfold zAg;rw[if_neg nr];exact h
  have remT:e1=4->zAe g e3=0->∀c:Bool,(!zQ (g.set e3.toNat (0,0,0,0),j,r) e0 u)=c->wK (w,v,t,y,u,(g,j,r),f,z)=true->(if jM (setE (w,v,t,y,u,(g,j,r),f,z) (g.set e3.toNat (0,0,0,0))) e0=false then (15:Int) else 0)=if c=true then 15 else 0:=fun _ _ c h1 h2=>by
   rw[kp,h2,<- h1]
   cases zQ (g.set e3.toNat (0,0,0,0),j,r) e0 u<;>rfl
  have remF:wK (w,v,t,y,u,(g,j,r),f,z)=false->(if jM (setE (w,v,t,y,u,(g,j,r),f,z) (g.set e3.toNat (0,0,0,0))) e0=false then (15:Int) else 0)=0:=fun h2=>by
   rw[kp,h2];rfl
  refine⟨hr,⟨hn,⟨fun c3=>⟨fun c4=>?_,fun c4=>⟨fun c5=>⟨fun c6=>?_,fun c6=>⟨fun c7=>?_,fun c7=>⟨fun c8=>?_,fun c8=>⟨hn,?_⟩⟩⟩⟩,fun c5=>⟨fun c9=>⟨hn,?_⟩,fun c9=>⟨fun c10=>⟨hn,⟨fun c11=>?_,fun c11=>⟨hn,⟨p2,⟨fun c12=>⟨?_,⟨fun c13=>?_,fun c13=>?_⟩⟩,fun c12=>?_⟩⟩⟩⟩⟩,fun c10=>?_⟩⟩⟩⟩,fun c3=>⟨hn,⟨fun c14=>⟨fun c15=>?_,fun c15=>⟨hn,?_⟩⟩,fun c14=>⟨fun c16=>⟨fun c17=>?_,fun c17=>⟨fun c18=>?_,fun c18=>⟨fun c19=>?_,fun c19=>⟨fun c20=>?_,fun c20=>⟨hn,?_⟩⟩⟩⟩⟩,fun c16=>⟨fun c21=>⟨fun c22=>?_,fun c22=>⟨hn,?_⟩⟩,fun c21=>⟨fun c23=>⟨hn,⟨fun c24=>?_,fun c24=>⟨hn,⟨p2,⟨fun c25=>⟨?_,⟨fun c26=>?_,fun c26=>?_⟩⟩,fun c25=>?_⟩⟩⟩⟩⟩,fun c23=>?_⟩⟩⟩⟩⟩⟩⟩⟩
  ·have d3:(gEl g e3).1=1:=eq_of_beq c3
   exact b1 (eq_of_beq c4) 10 (by decide) (ins _ (if_pos ⟨by omega,by omega⟩))
  ·exact b2 (eq_of_beq c5) 2 (by decide) (tst _ (if_pos (xP c6)))
  ·exact b2 (eq_of_beq c5) 2 (by decide) (tst _ (by rw[if_neg (by rw[qR c6];decide),if_pos (dcT c7)]))
  ·exact b2 (eq_of_beq c5) 2 (by decide) (tst _ (by rw[if_neg (by rw[qR c6];decide),if_neg (dcF c7),if_pos (dcT c8)]))
  ·exact g2 (eq_of_beq c5) (tst _ (by rw[if_neg (by rw[qR c6];decide),if_neg (dcF c7),if_neg (dcF c8),if_neg (by rw[(alv true).2 (by rw[show ((gEl g e3).1==1)=true from c3];rfl)];decide)]))
  ·exact g3 (eq_of_beq c9) (fal _ (if_neg (by rw[(alv true).2 (by rw[show ((gEl g e3).1==1)=true from c3];rfl)];decide)))
  ·have d3:(gEl g e3).1=1:=eq_of_beq c3
   have d4:(gEl g e3).1=0:=eq_of_beq c11
   omega
  ·have d4:(gEl g e3).1≠0:=ne_of_beq_false c11
   exact hrem (rem 0 (if_neg d4))
  ·have d4:(gEl g e3).1≠0:=ne_of_beq_false c11
   exact g4 (eq_of_beq c10) (rem 0 (if_neg d4)) _ ((remT (eq_of_beq c10) (rem 0 (if_neg d4)) _ c13 c12).trans rfl)
  ·have d4:(gEl g e3).1≠0:=ne_of_beq_false c11
   exact g4 (eq_of_beq c10) (rem 0 (if_neg d4)) _ ((remT (eq_of_beq c10) (rem 0 (if_neg d4)) _ c13 c12).trans rfl)
  ·have d4:(gEl g e3).1≠0:=ne_of_beq_false c11
   exact g4 (eq_of_beq c10) (rem 0 (if_neg d4)) _ (remF c12)
  ·have:=ne_of_beq_false c4;have:=ne_of_beq_false c5;have:=ne_of_beq_false c9;have:=ne_of_beq_false c10
   omega
  ·have d3:(gEl g e3).1=2:=eq_of_beq c15
   exact b1 (eq_of_beq c14) 10 (by decide) (ins _ (if_pos ⟨by omega,by omega⟩))
  ·have d3:(gEl g e3).1≠1:=ne_of_beq_false c3
   have d4:(gEl g e3).1≠2:=ne_of_beq_false c15
   exact g1 (eq_of_beq c14) (ins _ (if_neg (by omega)))
  ·exact b2 (eq_of_beq c16) 2 (by decide) (tst _ (if_pos (xP c17)))
  ·exact b2 (eq_of_beq c16) 2 (by decide) (tst _ (by rw[if_neg (by rw[qR c17];decide),if_pos (dcT c18)]))
  ·exact b2 (eq_of_beq c16) 2 (by decide) (tst _ (by rw[if_neg (by rw[qR c17];decide),if_neg (dcF c18),if_pos (dcT c19)]))
  ·exact b2 (eq_of_beq c16) 10 (by decide) (tst _ (by rw[if_neg (by rw[qR c17];decide),if_neg (dcF c18),if_neg (dcF c19),if_pos ((alv false).2 (by rw[show ((gEl g e3).1==1)=false from c3,show ((gEl g e3).1==2)=false from xP c20];rfl))]))
  ·exact g2 (eq_of_beq c16) (tst _ (by rw[if_neg (by rw[qR c17];decide),if_neg (dcF c18),if_neg (dcF c19),if_neg (by rw[(alv true).2 (by rw[show ((gEl g e3).1==2)=true from qR c20,Bool.or_true])];decide)]))
  ·exact b3 (eq_of_beq c21) 10 (by decide) (fal _ (if_pos ((alv false).2 (by rw[show ((gEl g e3).1==1)=false from c3,show ((gEl g e3).1==2)=false from xP c22];rfl))))
  ·exact g3 (eq_of_beq c21) (fal _ (if_neg (by rw[(alv true).2 (by rw[show ((gEl g e3).1==2)=true from qR c22,Bool.or_true])];decide)))
  ·have d4:(gEl g e3).1=0:=eq_of_beq c24
   exact b4 (eq_of_beq c23) 10 (by decide) (rem _ (if_pos d4))
  ·have d4:(gEl g e3).1≠0:=ne_of_beq_false c24
   exact hrem (rem 0 (if_neg d4))
  ·have d4:(gEl g e3).1≠0:=ne_of_beq_false c24
   exact g4 (eq_of_beq c23) (rem 0 (if_neg d4)) _ ((remT (eq_of_beq c23) (rem 0 (if_neg d4)) _ c26 c25).trans rfl)
  ·have d4:(gEl g e3).1≠0:=ne_of_beq_false c24
   exact g4 (eq_of_beq c23) (rem 0 (if_neg d4)) _ ((remT (eq_of_beq c23) (rem 0 (if_neg d4)) _ c26 c25).trans rfl)
  ·have d4:(gEl g e3).1≠0:=ne_of_beq_false c24
   exact g4 (eq_of_beq c23) (rem 0 (if_neg d4)) _ (remF c25)
  ·have:=ne_of_beq_false c14;have:=ne_of_beq_false c16;have:=ne_of_beq_false c21;have:=ne_of_beq_false c23
   omega)
def L_rcmd:Lay:={ slots:=[(0,.ptr 1 0),(1,.agg jE)],boxes:=[(1,gJ)] }
theorem T_rcmd(e0 e1 e2 e3 e4 e5:Int)(w v t y u:Int)(g:List E4)(j:List (List Int))(r:Int)(f:List Pm)(z:Int):jG (P:=P) [wV.gc,c_rcrewX.gc,c_ropenX.gc,c_rHoldsX.gc] (zH []) Tryz.f102 L_rcmd true ((),(e0,e1,e2,e3,e4,e5),w,v,t,y,u,g,j,r,f,z,()) =
 Tree.cond (e1==7) (.cond (e2 != y) (.leaf { res:=.int .i64 10,boxes:=[[.int .i64 w,.int .i64 v,.int .i64 t,.int .i64 y,.int .i64 u,.own 50,.sl tIs j,.int .i64 r,.own 51,.int .i64 z]],news:=[.row 47 tEl g,.row 49 tPm f]++[] }) (.leaf { res:=.int .i64 0,boxes:=[[.int .i64 w,.int .i64 v,.int .i64 e2,.int .i64 (-1:Int),.int .i64 u,.own 50,.sl tIs j,.int .i64 r,.own 51,.int .i64 z]],news:=[.row 47 tEl g,.row 49 tPm f]++[] })) (.cond (e2 != t) (.leaf { res:=.int .i64 10,boxes:=[[.int .i64 w,.int .i64 v,.int .i64 t,.int .i64 y,.int .i64 u,.own 50,.sl tIs j,.int .i64 r,.own 51,.int .i64 z]],news:=[.row 47 tEl g,.row 49 tPm f]++[] }) (.cond (e1==6) (.cond (!vB v e4) (.leaf { res:=.int .i64 2,boxes:=[[.int .i64 w,.int .i64 v,.int .i64 t,.int .i64 y,.int .i64 u,.own 50,.sl tIs j,.int .i64 r,.own 51,.int .i64 z]],news:=[.row 47 tEl g,.row 49 tPm f]++[] }) (.cond (e4==t) (.leaf { res:=.int .i64 2,boxes:=[[.int .i64 w,.int .i64 v,.int .i64 t,.int .i64 y,.int .i64 u,.own 50,.sl tIs j,.int .i64 r,.own 51,.int .i64 z]],news:=[.row 47 tEl g,.row 49 tPm f]++[] }) (.leaf { res:=.int .i64 0,boxes:=[[.int .i64 w,.int .i64 v,.int .i64 t,.int .i64 e4,.int .i64 u,.own 50,.sl tIs j,.int .i64 r,.own 51,.int .i64 z]],news:=[.row 47 tEl g,.row 49 tPm f]++[] }))) (.cond (!wi e5 0 68719476736) (.leaf { res:=.int .i64 2,boxes:=[[.int .i64 w,.int .i64 v,.int .i64 t,.int .i64 y,.int .i64 u,.own 50,.sl tIs j,.int .i64 r,.own 51,.int .i64 z]],news:=[.row 47 tEl g,.row 49 tPm f]++[] }) (.need (f.length<=1000) (.cond (wK (w,v,t,y,u,(g,j,r),f,z)) (.need (zB (g,j,r)=0) (.cond (!zQ (g,j,r) e0 e5) (.leaf { res:=.int .i64 15,boxes:=[[.int .i64 w,.int .i64 v,.int .i64 t,.int .i64 y,.int .i64 u,.own 50,.sl tIs j,.int .i64 r,.own 51,.int .i64 z]],news:=[.row 47 tEl g,.row 49 tPm f]++[] }) (.leaf { res:=.int .i64 0,boxes:=[[.int .i64 w,.int .i64 v,.int .i64 t,.int .i64 y,.int .i64 e5,.own 50,.sl tIs j,.int .i64 r,.own 51,.int .i64 z]],news:=[.row 47 tEl g,.row 49 tPm f]++[] }))) (.leaf { res:=.int .i64 0,boxes:=[[.int .i64 w,.int .i64 v,.int .i64 t,.int .i64 y,.int .i64 e5,.own 50,.sl tIs j,.int .i64 r,.own 51,.int .i64 z]],news:=[.row 47 tEl g,.row 49 tPm f]++[] })))))):=by kernel_rfl
def c_rcmd:MC P:=MC.of (α:=AcB1) 102 L_rcmd (fun x=>x) (fun x=>x) (fun _=>rfl)
 (fun(_,e,_,_,_,_,_,g,j,r,f,_)=>some ((5<=e.2.1/\e.2.1<=7)/\zB (g,j,r)=0/\f.length<=1000))
 (fun(_,e,w,v,t,y,u,g,j,r,f,z,_)=>⟨.int .i64 (jJ (w,v,t,y,u,(g,j,r),f,z) e),[zV (yS (w,v,t,y,u,(g,j,r),f,z) e)],zW (yS (w,v,t,y,u,(g,j,r),f,z) e)⟩) (by kernel_rfl) (by kernel_rfl) (by kernel_rfl) (by
  rintro⟨⟨⟩,⟨e0,e1,e2,e3,e4,e5⟩,w,v,t,y,u,g,j,r,f,z,⟨⟩⟩ hp
  refine yG hm (own:=true) (by kernel_rfl) (by kernel_rfl) (by kernel_rfl) (T_rcmd e0 e1 e2 e3 e4 e5 w v t y u g j r f z) trivial ?_
  obtain⟨⟨q1,q2⟩,p1,p2⟩:(5<=e1/\e1<=7)/\zB (g,j,r)=0/\f.length<=1000:=hp
  have fin:∀(m h o p:Int),jJ (w,v,t,y,u,(g,j,r),f,z) (e0,e1,e2,e3,e4,e5)=m->yS (w,v,t,y,u,(g,j,r),f,z) (e0,e1,e2,e3,e4,e5)=(w,v,h,o,p,(g,j,r),f,z)->(⟨.int .i64 m,[zV (w,v,h,o,p,(g,j,r),f,z)],zW (w,v,h,o,p,(g,j,r),f,z)⟩:MOut)=⟨.int .i64 (jJ (w,v,t,y,u,(g,j,r),f,z) (e0,e1,e2,e3,e4,e5)),[zV (yS (w,v,t,y,u,(g,j,r),f,z) (e0,e1,e2,e3,e4,e5))],zW (yS (w,v,t,y,u,(g,j,r),f,z) (e0,e1,e2,e3,e4,e5))⟩:=fun m h o p h1 h2=>by rw[h1,h2]
  have k7:e1=7->jJ (w,v,t,y,u,(g,j,r),f,z) (e0,e1,e2,e3,e4,e5)=gO (w,v,t,y,u,(g,j,r),f,z) (e0,e1,e2,e3,e4,e5)/\yS (w,v,t,y,u,(g,j,r),f,z) (e0,e1,e2,e3,e4,e5)=(w,v,fK (w,v,t,y,u,(g,j,r),f,z) (e0,e1,e2,e3,e4,e5),fJ (w,v,t,y,u,(g,j,r),f,z) (e0,e1,e2,e3,e4,e5),u,(g,j,r),f,z):=fun h=>by subst h;exact⟨rfl,rfl⟩
  have k6:e1=6->jJ (w,v,t,y,u,(g,j,r),f,z) (e0,e1,e2,e3,e4,e5)=pL (w,v,t,y,u,(g,j,r),f,z) (e0,e1,e2,e3,e4,e5)/\yS (w,v,t,y,u,(g,j,r),f,z) (e0,e1,e2,e3,e4,e5)=(w,v,t,gX (w,v,t,y,u,(g,j,r),f,z) (e0,e1,e2,e3,e4,e5),u,(g,j,r),f,z):=fun h=>by subst h;exact⟨rfl,rfl⟩
  have k5:e1=5->jJ (w,v,t,y,u,(g,j,r),f,z) (e0,e1,e2,e3,e4,e5)=kN (w,v,t,y,u,(g,j,r),f,z) (e0,e1,e2,e3,e4,e5)/\yS (w,v,t,y,u,(g,j,r),f,z) (e0,e1,e2,e3,e4,e5)=(w,v,t,y,(if kN (w,v,t,y,u,(g,j,r),f,z) (e0,e1,e2,e3,e4,e5)=0 then e5 else u),(g,j,r),f,z):=fun h=>by subst h;exact⟨rfl,rfl⟩
  have b5:e1=5->∀n:Int,n≠0->kN (w,v,t,y,u,(g,j,r),f,z) (e0,e1,e2,e3,e4,e5)=n->(⟨.int .i64 n,[zV (w,v,t,y,u,(g,j,r),f,z)],zW (w,v,t,y,u,(g,j,r),f,z)⟩:MOut)=⟨.int .i64 (jJ (w,v,t,y,u,(g,j,r),f,z) (e0,e1,e2,e3,e4,e5)),[zV (yS (w,v,t,y,u,(g,j,r),f,z) (e0,e1,e2,e3,e4,e5))],zW (yS (w,v,t,y,u,(g,j,r),f,z) (e0,e1,e2,e3,e4,e5))⟩:=fun h n h0 hn=>fin n t y u ((k5 h).1.trans hn) ((k5 h).2.trans (by rw[hn,if_neg h0]))
  have g5:e1=5->kN (w,v,t,y,u,(g,j,r),f,z) (e0,e1,e2,e3,e4,e5)=0->(⟨.int .i64 0,[zV (w,v,t,y,e5,(g,j,r),f,z)],zW (w,v,t,y,e5,(g,j,r),f,z)⟩:MOut)=⟨.int .i64 (jJ (w,v,t,y,u,(g,j,r),f,z) (e0,e1,e2,e3,e4,e5)),[zV (yS (w,v,t,y,u,(g,j,r),f,z) (e0,e1,e2,e3,e4,e5))],zW (yS (w,v,t,y,u,(g,j,r),f,z) (e0,e1,e2,e3,e4,e5))⟩:=fun h hn=>fin 0 t y e5 ((k5 h).1.trans hn) ((k5 h).2.trans (by rw[hn,if_pos rfl]))
  have kp:jM (setP (w,v,t,y,u,(g,j,r),f,z) e5) e0=(!wK (w,v,t,y,u,(g,j,r),f,z)||zQ (g,j,r) e0 e5):=rfl
  have prs:e2=t->wi e5 0 68719476736=true->∀n:Int,(if jM (setP (w,v,t,y,u,(g,j,r),f,z) e5) e0=false then 15 else 0)=n->kN (w,v,t,y,u,(g,j,r),f,z) (e0,e1,e2,e3,e4,e5)=n:=fun h1 h2 n hn=>by
   have q:prsQ (w,v,t,y,u,(g,j,r),f,z) (e0,e1,e2,e3,e4,e5)=0:=by unfold prsQ;rw[if_neg (fun k=>k h1)];exact if_neg (show ¬ wi e5 0 68719476736=false by rw[h2];decide)
   unfold kN
   rw[if_neg (fun k=>k q)]
   exact hn
  refine⟨fun c1=>⟨fun c2=>?_,fun c2=>?_⟩,fun c1=>⟨fun c3=>?_,fun c3=>⟨fun c4=>⟨fun c5=>?_,fun c5=>⟨fun c6=>?_,fun c6=>?_⟩⟩,fun c4=>⟨fun c7=>?_,fun c7=>⟨p2,⟨fun c8=>⟨p1,⟨fun c9=>?_,fun c9=>?_⟩⟩,fun c8=>?_⟩⟩⟩⟩⟩⟩
  ·have h:=eq_of_beq c1
   exact fin 10 t y u ((k7 h).1.trans (by unfold gO;simp[c2])) ((k7 h).2.trans (by unfold fK fJ gO;simp[c2]))
  ·have h:=eq_of_beq c1
   exact fin 0 e2 (-1) u ((k7 h).1.trans (by unfold gO;simp[c2])) ((k7 h).2.trans (by unfold fK fJ gO;simp[c2]))
  ·have h7:=ne_of_beq_false c1
   have hc:e1=5\/e1=6:=by omega
   rcases hc with h |h
   ·exact b5 h 10 (by decide) (by unfold kN prsQ;simp[zAi c3])
   ·exact fin 10 t y u ((k6 h).1.trans (by unfold pL offB;simp[c3])) ((k6 h).2.trans (by unfold gX pL offB;simp[c3]))
  ·have h:=eq_of_beq c4
   exact fin 2 t y u ((k6 h).1.trans (by unfold pL offB;simp[c3,c5])) ((k6 h).2.trans (by unfold gX pL offB;simp[c3,c5]))
  ·have h:=eq_of_beq c4
   exact fin 2 t y u ((k6 h).1.trans (by unfold pL offB;simp[c3,c5,c6])) ((k6 h).2.trans (by unfold gX pL offB;simp[c3,c5,c6]))
  ·have h:=eq_of_beq c4
   exact fin 0 t e4 u ((k6 h).1.trans (by unfold pL offB;simp[c3,c5,c6])) ((k6 h).2.trans (by unfold gX pL offB;simp[c3,c5,c6]))
  all_goals have h7:=ne_of_beq_false c1
  all_goals have h6:=ne_of_beq_false c4
  all_goals have h:e1=5:=by omega
  ·exact b5 h 2 (by decide) (by
    have q:prsQ (w,v,t,y,u,(g,j,r),f,z) (e0,e1,e2,e3,e4,e5)=2:=by unfold prsQ;rw[if_neg (fun k=>k (wF c3))];exact if_pos (xP c7)
    unfold kN
    rw[if_pos (by rw[q];decide)]
    exact q)
  ·exact b5 h 15 (by decide) (prs (wF c3) (qR c7) _ (if_pos (by rw[kp,c8,xP c9];rfl)))
  ·exact g5 h (prs (wF c3) (qR c7) _ (if_neg (by rw[kp,qR c9,Bool.or_true];decide)))
  ·exact g5 h (prs (wF c3) (qR c7) _ (if_neg (by rw[kp,c8,Bool.not_false,Bool.true_or];decide))))
def L_rop:Lay:={ slots:=[(0,.ptr 1 0),(1,.agg jE)],boxes:=[(1,gJ)] }
theorem T_rop(e0 e1 e2 e3 e4 e5:Int)(w v t y u:Int)(g:List E4)(j:List (List Int))(r:Int)(f:List Pm)(z:Int):jG (P:=P) [c_rfindX.gc,c_rHoldsX.gc] (zH []) Tryz.f104 L_rop true ((),(e0,e1,e2,e3,e4,e5),w,v,t,y,u,g,j,r,f,z,()) =
 Tree.need ((f.length:Int)<2 ^ 62) (.cond (decide (pIx f e3<0)) (.leaf { res:=.int .i64 7,boxes:=[[.int .i64 w,.int .i64 v,.int .i64 t,.int .i64 y,.int .i64 u,.own 50,.sl tIs j,.int .i64 r,.own 51,.int .i64 z]],news:=[.row 47 tEl g,.row 49 tPm f]++[] }) (.need (0<=pIx f e3/\pIx f e3<(f.length:Int)) (.cond (e1==10) (.need (Int.toNat (pIx f e3)<f.length) (.cond (!(List.getD f (Int.toNat (pIx f e3)) ((0:Int),(0:Int),(0:Int),false)).2.2.2) (.leaf { res:=.int .i64 7,boxes:=[[.int .i64 w,.int .i64 v,.int .i64 t,.int .i64 y,.int .i64 u,.own 50,.sl tIs j,.int .i64 r,.own 51,.int .i64 z]],news:=[.row 47 tEl g,.row 49 tPm f]++[] }) (.need (Int.toNat (pIx f e3)<f.length) (.cond (e2 != (List.getD f (Int.toNat (pIx f e3)) ((0:Int),(0:Int),(0:Int),false)).2.1) (.cond (e2 != t) (.leaf { res:=.int .i64 10,boxes:=[[.int .i64 w,.int .i64 v,.int .i64 t,.int .i64 y,.int .i64 u,.own 50,.sl tIs j,.int .i64 r,.own 51,.int .i64 z]],news:=[.row 47 tEl g,.row 49 tPm f]++[] }) (.need (Int.toNat (pIx f e3)<f.length) (.leaf { res:=.int .i64 0,boxes:=[[.int .i64 w,.int .i64 v,.int .i64 t,.int .i64 y,.int .i64 u,.own 50,.sl tIs j,.int .i64 r,.own 51,.int .i64 z]],news:=[.row 47 tEl g,.row 49 tPm (List.set f (Int.toNat (pIx f e3)) ((List.getD f (Int.toNat (pIx f e3)) ((0:Int),(0:Int),(0:Int),false)).1,(List.getD f (Int.toNat (pIx f e3)) ((0:Int),(0:Int),(0:Int),false)).2.1,(List.getD f (Int.toNat (pIx f e3)) ((0:Int),(0:Int),(0:Int),false)).2.2.1,false))]++[] }))) (.need (Int.toNat (pIx f e3)<f.length) (.leaf { res:=.int .i64 0,boxes:=[[.int .i64 w,.int .i64 v,.int .i64 t,.int .i64 y,.int .i64 u,.own 50,.sl tIs j,.int .i64 r,.own 51,.int .i64 z]],news:=[.row 47 tEl g,.row 49 tPm (List.set f (Int.toNat (pIx f e3)) ((List.getD f (Int.toNat (pIx f e3)) ((0:Int),(0:Int),(0:Int),false)).1,(List.getD f (Int.toNat (pIx f e3)) ((0:Int),(0:Int),(0:Int),false)).2.1,(List.getD f (Int.toNat (pIx f e3)) ((0:Int),(0:Int),(0:Int),false)).2.2.1,false))]++[] })))))) (.need (Int.toNat (pIx f e3)<f.length) (.cond ((List.getD f (Int.toNat (pIx f e3)) ((0:Int),(0:Int),(0:Int),false)).2.1 != e2) (.leaf { res:=.int .i64 7,boxes:=[[.int .i64 w,.int .i64 v,.int .i64 t,.int .i64 y,.int .i64 u,.own 50,.sl tIs j,.int .i64 r,.own 51,.int .i64 z]],news:=[.row 47 tEl g,.row 49 tPm f]++[] }) (.need (Int.toNat (pIx f e3)<f.length) (.cond (List.getD f (Int.toNat (pIx f e3)) ((0:Int),(0:Int),(0:Int),false)).2.2.2 (.leaf { res:=.int .i64 9,boxes:=[[.int .i64 w,.int .i64 v,.int .i64 t,.int .i64 y,.int .i64 u,.own 50,.sl tIs j,.int .i64 r,.own 51,.int .i64 z]],news:=[.row 47 tEl g,.row 49 tPm f]++[] }) (.need (Int.toNat (pIx f e3)<f.length) (.cond (decide (e0>(List.getD f (Int.toNat (pIx f e3)) ((0:Int),(0:Int),(0:Int),false)).2.2.1)) (.leaf { res:=.int .i64 13,boxes:=[[.int .i64 w,.int .i64 v,.int .i64 t,.int .i64 y,.int .i64 u,.own 50,.sl tIs j,.int .i64 r,.own 51,.int .i64 z]],news:=[.row 47 tEl g,.row 49 tPm f]++[] }) (.need (zB (g,j,r)=0) (.cond (!zQ (g,j,r) e0 u) (.leaf { res:=.int .i64 15,boxes:=[[.int .i64 w,.int .i64 v,.int .i64 t,.int .i64 y,.int .i64 u,.own 50,.sl tIs j,.int .i64 r,.own 51,.int .i64 z]],news:=[.row 47 tEl g,.row 49 tPm f]++[] }) (.need (Int.toNat (pIx f e3)<f.length) (.leaf { res:=.int .i64 0,boxes:=[[.int .i64 w,.int .i64 v,.int .i64 t,.int .i64 y,.int .i64 u,.own 50,.sl tIs j,.int .i64 r,.own 51,.int .i64 z]],news:=[.row 47 tEl g,.row 49 tPm (List.set f (Int.toNat (pIx f e3)) ((List.getD f (Int.toNat (pIx f e3)) ((0:Int),(0:Int),(0:Int),false)).1,(List.getD f (Int.toNat (pIx f e3)) ((0:Int),(0:Int),(0:Int),false)).2.1,(List.getD f (Int.toNat (pIx f e3)) ((0:Int),(0:Int),(0:Int),false)).2.2.1,true))]++[] }))))))))))))):=by kernel_rfl
def c_rop:MC P:=MC.of (α:=AcB1) 104 L_rop (fun x=>x) (fun x=>x) (fun _=>rfl)
 (fun(_,e,_,_,_,_,_,g,j,r,f,_)=>some ((9<=e.2.1/\e.2.1<=10)/\zB (g,j,r)=0/\f.length<=1000))
 (fun(_,e,w,v,t,y,u,g,j,r,f,z,_)=>⟨.int .i64 (jJ (w,v,t,y,u,(g,j,r),f,z) e),[zV (zK (w,v,t,y,u,(g,j,r),f,z) e)],zW (zK (w,v,t,y,u,(g,j,r),f,z) e)⟩) (by kernel_rfl) (by kernel_rfl) (by kernel_rfl) (by
  rintro⟨⟨⟩,⟨e0,e1,e2,e3,e4,e5⟩,w,v,t,y,u,g,j,r,f,z,⟨⟩⟩ hp
  refine yG hm (own:=true) (by kernel_rfl) (by kernel_rfl) (by kernel_rfl) (T_rop e0 e1 e2 e3 e4 e5 w v t y u g j r f z) trivial ?_
  obtain⟨⟨q1,q2⟩,p1,p2⟩:(9<=e1/\e1<=10)/\zB (g,j,r)=0/\f.length<=1000:=hp
  have fin:∀(m:Int)(l:List Pm),jJ (w,v,t,y,u,(g,j,r),f,z) (e0,e1,e2,e3,e4,e5)=m->zK (w,v,t,y,u,(g,j,r),f,z) (e0,e1,e2,e3,e4,e5)=kH (w,v,t,y,u,(g,j,r),f,z) l->(⟨.int .i64 m,[zV (w,v,t,y,u,(g,j,r),l,z)],zW (w,v,t,y,u,(g,j,r),l,z)⟩:MOut)=⟨.int .i64 (jJ (w,v,t,y,u,(g,j,r),f,z) (e0,e1,e2,e3,e4,e5)),[zV (zK (w,v,t,y,u,(g,j,r),f,z) (e0,e1,e2,e3,e4,e5))],zW (zK (w,v,t,y,u,(g,j,r),f,z) (e0,e1,e2,e3,e4,e5))⟩:=fun m l h1 h2=>by rw[h1,h2];rfl
  have k9:e1=9->jJ (w,v,t,y,u,(g,j,r),f,z) (e0,e1,e2,e3,e4,e5)=staE (w,v,t,y,u,(g,j,r),f,z) (e0,e1,e2,e3,e4,e5)/\zK (w,v,t,y,u,(g,j,r),f,z) (e0,e1,e2,e3,e4,e5)=kH (w,v,t,y,u,(g,j,r),f,z) (staL (w,v,t,y,u,(g,j,r),f,z) (e0,e1,e2,e3,e4,e5)):=fun h=>by subst h;exact⟨rfl,rfl⟩
  have k10:e1=10->jJ (w,v,t,y,u,(g,j,r),f,z) (e0,e1,e2,e3,e4,e5)=stoE (w,v,t,y,u,(g,j,r),f,z) (e0,e1,e2,e3,e4,e5)/\zK (w,v,t,y,u,(g,j,r),f,z) (e0,e1,e2,e3,e4,e5)=kH (w,v,t,y,u,(g,j,r),f,z) (zAc (w,v,t,y,u,(g,j,r),f,z) (e0,e1,e2,e3,e4,e5)):=fun h=>by subst h;exact⟨rfl,rfl⟩
  have b9:e1=9->∀n:Int,n≠0->staE (w,v,t,y,u,(g,j,r),f,z) (e0,e1,e2,e3,e4,e5)=n->(⟨.int .i64 n,[zV (w,v,t,y,u,(g,j,r),f,z)],zW (w,v,t,y,u,(g,j,r),f,z)⟩:MOut)=⟨.int .i64 (jJ (w,v,t,y,u,(g,j,r),f,z) (e0,e1,e2,e3,e4,e5)),[zV (zK (w,v,t,y,u,(g,j,r),f,z) (e0,e1,e2,e3,e4,e5))],zW (zK (w,v,t,y,u,(g,j,r),f,z) (e0,e1,e2,e3,e4,e5))⟩:=fun h n h0 hn=>fin n f ((k9 h).1.trans hn) ((k9 h).2.trans (by unfold staL;rw[hn,if_neg h0]))
  have b10:e1=10->∀n:Int,n≠0->stoE (w,v,t,y,u,(g,j,r),f,z) (e0,e1,e2,e3,e4,e5)=n->(⟨.int .i64 n,[zV (w,v,t,y,u,(g,j,r),f,z)],zW (w,v,t,y,u,(g,j,r),f,z)⟩:MOut)=⟨.int .i64 (jJ (w,v,t,y,u,(g,j,r),f,z) (e0,e1,e2,e3,e4,e5)),[zV (zK (w,v,t,y,u,(g,j,r),f,z) (e0,e1,e2,e3,e4,e5))],zW (zK (w,v,t,y,u,(g,j,r),f,z) (e0,e1,e2,e3,e4,e5))⟩:=fun h n h0 hn=>fin n f ((k10 h).1.trans hn) ((k10 h).2.trans (by unfold zAc;rw[hn,if_neg h0]))
  have hlt:pIx f e3<f.length:=ixS_ltL
  refine⟨by omega,⟨fun c1=>?_,fun c1=>?_⟩⟩
  ·have c1:=dcT c1
   have hc:e1=9\/e1=10:=by omega
   rcases hc with h |h
   ·exact b9 h 7 (by decide) (by unfold staE;exact if_pos c1)
   ·exact b10 h 7 (by decide) (by unfold stoE;exact if_pos c1)
  have c1:=dcF c1
  have d1:0<=pIx f e3:=by omega
  have d2:(pIx f e3).toNat<f.length:=by omega
  have f9:∀n:Int,(if (gPm f (pIx f e3)).2.1≠e2 then 7 else if (gPm f (pIx f e3)).2.2.2=true then 9 else if e0>(gPm f (pIx f e3)).2.2.1 then 13 else if zQ (g,j,r) e0 u=false then 15 else 0)=n->staE (w,v,t,y,u,(g,j,r),f,z) (e0,e1,e2,e3,e4,e5)=n:=fun n h=>by unfold staE;rw[if_neg c1];exact h
  have f10:∀n:Int,(if (gPm f (pIx f e3)).2.2.2=false then 7 else if e2≠(gPm f (pIx f e3)).2.1/\e2≠t then 10 else 0)=n->stoE (w,v,t,y,u,(g,j,r),f,z) (e0,e1,e2,e3,e4,e5)=n:=fun n h=>by unfold stoE;rw[if_neg c1];exact h
  refine⟨⟨d1,hlt⟩,⟨fun c2=>⟨d2,⟨fun c3=>?_,fun c3=>⟨d2,⟨fun c4=>⟨fun c5=>?_,fun c5=>⟨d2,?_⟩⟩,fun c4=>⟨d2,?_⟩⟩⟩⟩⟩,fun c2=>⟨d2,⟨fun c6=>?_,fun c6=>⟨d2,⟨fun c7=>?_,fun c7=>⟨d2,⟨fun c8=>?_,fun c8=>⟨p1,⟨fun c9=>?_,fun c9=>⟨d2,?_⟩⟩⟩⟩⟩⟩⟩⟩⟩⟩⟩
  ·exact b10 (eq_of_beq c2) 7 (by decide) (f10 _ (if_pos (xP c3)))
  ·have d3:¬ (gPm f (pIx f e3)).2.2.2=false:=fun k=>by rw[show (gPm f (pIx f e3)).2.2.2=true from qR c3] at k;cases k
   exact b10 (eq_of_beq c2) 10 (by decide) (f10 _ (by rw[if_neg d3,if_pos ⟨zAi c4,zAi c5⟩]))
  ·have d3:¬ (gPm f (pIx f e3)).2.2.2=false:=fun k=>by rw[show (gPm f (pIx f e3)).2.2.2=true from qR c3] at k;cases k
   have e:=f10 0 (by rw[if_neg d3,if_neg (fun k=>k.2 (wF c5))])
   exact fin 0 _ ((k10 (eq_of_beq c2)).1.trans e) ((k10 (eq_of_beq c2)).2.trans (by unfold zAc;rw[if_pos e];rfl))
  ·have d3:¬ (gPm f (pIx f e3)).2.2.2=false:=fun k=>by rw[show (gPm f (pIx f e3)).2.2.2=true from qR c3] at k;cases k
   have e:=f10 0 (by rw[if_neg d3,if_neg (fun k=>k.1 (wF c4))])
   exact fin 0 _ ((k10 (eq_of_beq c2)).1.trans e) ((k10 (eq_of_beq c2)).2.trans (by unfold zAc;rw[if_pos e];rfl))
  all_goals have h10:=ne_of_beq_false c2
  all_goals have h:e1=9:=by omega
  ·exact b9 h 7 (by decide) (f9 _ (if_pos (zAi c6)))
  all_goals have d3:(gPm f (pIx f e3)).2.1=e2:=wF c6
  ·exact b9 h 9 (by decide) (f9 _ (by rw[if_neg (fun k=>k d3)];exact if_pos c7))
  all_goals have d4:¬ (gPm f (pIx f e3)).2.2.2=true:=fun k=>by rw[show (gPm f (pIx f e3)).2.2.2=false from c7] at k;cases k
  ·exact b9 h 13 (by decide) (f9 _ (by rw[if_neg (fun k=>k d3),if_neg d4];exact if_pos (dcT c8)))
  all_goals have d5:¬ e0>(gPm f (pIx f e3)).2.2.1:=dcF c8
  ·exact b9 h 15 (by decide) (f9 _ (by rw[if_neg (fun k=>k d3),if_neg d4,if_neg d5];exact if_pos (xP c9)))
  ·have d6:zQ (g,j,r) e0 u=true:=qR c9
   have e:=f9 0 (by rw[if_neg (fun k=>k d3),if_neg d4,if_neg d5,if_neg (by rw[d6];decide)])
   exact fin 0 _ ((k9 h).1.trans e) ((k9 h).2.trans (by unfold staL;rw[if_pos e];rfl)))
def L_rprA:Lay:={ slots:=[(0,.ptr 1 0),(1,.agg jE)],boxes:=[(1,gJ)] }
theorem T_rprA(e0 e1 e2 e3 e4 e5:Int)(w v t y u:Int)(g:List E4)(j:List (List Int))(r:Int)(f:List Pm)(z:Int):jG (P:=P) [c_rcrewX.gc,c_rfindX.gc,wV.gc] (zH []) Tryz.f103 L_rprA true ((),(e0,e1,e2,e3,e4,e5),w,v,t,y,u,g,j,r,f,z,()) =
 Tree.cond (e2 != t) (.leaf { res:=.int .i64 10,boxes:=[[.int .i64 w,.int .i64 v,.int .i64 t,.int .i64 y,.int .i64 u,.own 50,.sl tIs j,.int .i64 r,.own 51,.int .i64 z]],news:=[.row 47 tEl g,.row 49 tPm f]++[] }) (.cond (decide (e3<0)) (.leaf { res:=.int .i64 2,boxes:=[[.int .i64 w,.int .i64 v,.int .i64 t,.int .i64 y,.int .i64 u,.own 50,.sl tIs j,.int .i64 r,.own 51,.int .i64 z]],news:=[.row 47 tEl g,.row 49 tPm f]++[] }) (.cond (decide (e3>=16)) (.leaf { res:=.int .i64 2,boxes:=[[.int .i64 w,.int .i64 v,.int .i64 t,.int .i64 y,.int .i64 u,.own 50,.sl tIs j,.int .i64 r,.own 51,.int .i64 z]],news:=[.row 47 tEl g,.row 49 tPm f]++[] }) (.cond (!vB v e4) (.leaf { res:=.int .i64 2,boxes:=[[.int .i64 w,.int .i64 v,.int .i64 t,.int .i64 y,.int .i64 u,.own 50,.sl tIs j,.int .i64 r,.own 51,.int .i64 z]],news:=[.row 47 tEl g,.row 49 tPm f]++[] }) (.cond (!wi e5 e0 2199023255552) (.leaf { res:=.int .i64 2,boxes:=[[.int .i64 w,.int .i64 v,.int .i64 t,.int .i64 y,.int .i64 u,.own 50,.sl tIs j,.int .i64 r,.own 51,.int .i64 z]],news:=[.row 47 tEl g,.row 49 tPm f]++[] }) (.need ((f.length:Int)<2 ^ 62) (.cond (decide (pIx f e3>=0)) (.need (0<=pIx f e3/\pIx f e3<(f.length:Int)) (.need (Int.toNat (pIx f e3)<f.length) (.cond (List.getD f (Int.toNat (pIx f e3)) ((0:Int),(0:Int),(0:Int),false)).2.2.2 (.leaf { res:=.int .i64 9,boxes:=[[.int .i64 w,.int .i64 v,.int .i64 t,.int .i64 y,.int .i64 u,.own 50,.sl tIs j,.int .i64 r,.own 51,.int .i64 z]],news:=[.row 47 tEl g,.row 49 tPm f]++[] }) (.need (0<=pIx f e3/\pIx f e3<(f.length:Int)) (.need (Int.toNat (pIx f e3)<f.length) (.leaf { res:=.int .i64 0,boxes:=[[.int .i64 w,.int .i64 v,.int .i64 t,.int .i64 y,.int .i64 u,.own 50,.sl tIs j,.int .i64 r,.own 51,.int .i64 z]],news:=[.row 47 tEl g,.row 49 tPm (List.set f (Int.toNat (pIx f e3)) (e3,e4,e5,false))]++[] })))))) (Tree.fail 200))))))):=by kernel_rfl
def c_rprA:MC P:=MC.of (α:=AcB1) 103 L_rprA (fun x=>x) (fun x=>x) (fun _=>rfl)
 (fun(_,e,w,v,t,y,u,g,j,r,f,z,_)=>some (f.length<=1000/\¬ (vM (w,v,t,y,u,(g,j,r),f,z) e=0/\pIx f e.2.2.2.1<0)))
 (fun(_,e,w,v,t,y,u,g,j,r,f,z,_)=>⟨.int .i64 (vM (w,v,t,y,u,(g,j,r),f,z) e),[zV (w,v,t,y,u,(g,j,r),xH (w,v,t,y,u,(g,j,r),f,z) e,z)],zW (w,v,t,y,u,(g,j,r),xH (w,v,t,y,u,(g,j,r),f,z) e,z)⟩) (by kernel_rfl) (by kernel_rfl) (by kernel_rfl) (by
  rintro⟨⟨⟩,⟨e0,e1,e2,e3,e4,e5⟩,w,v,t,y,u,g,j,r,f,z,⟨⟩⟩ hp
  refine yG hm (own:=true) (by kernel_rfl) (by kernel_rfl) (by kernel_rfl) (T_rprA e0 e1 e2 e3 e4 e5 w v t y u g j r f z) trivial ?_
  obtain⟨p2,hno⟩:f.length<=1000/\¬ (vM (w,v,t,y,u,(g,j,r),f,z) (e0,e1,e2,e3,e4,e5)=0/\pIx f e3<0):=hp
  have fin:∀(m:Int)(l:List Pm),vM (w,v,t,y,u,(g,j,r),f,z) (e0,e1,e2,e3,e4,e5)=m->xH (w,v,t,y,u,(g,j,r),f,z) (e0,e1,e2,e3,e4,e5)=l->(⟨.int .i64 m,[zV (w,v,t,y,u,(g,j,r),l,z)],zW (w,v,t,y,u,(g,j,r),l,z)⟩:MOut)=⟨.int .i64 (vM (w,v,t,y,u,(g,j,r),f,z) (e0,e1,e2,e3,e4,e5)),[zV (w,v,t,y,u,(g,j,r),xH (w,v,t,y,u,(g,j,r),f,z) (e0,e1,e2,e3,e4,e5),z)],zW (w,v,t,y,u,(g,j,r),xH (w,v,t,y,u,(g,j,r),f,z) (e0,e1,e2,e3,e4,e5),z)⟩:=fun m l h1 h2=>by rw[h1,h2]
  have bad:∀n:Int,n≠0->vM (w,v,t,y,u,(g,j,r),f,z) (e0,e1,e2,e3,e4,e5)=n->(⟨.int .i64 n,[zV (w,v,t,y,u,(g,j,r),f,z)],zW (w,v,t,y,u,(g,j,r),f,z)⟩:MOut)=⟨.int .i64 (vM (w,v,t,y,u,(g,j,r),f,z) (e0,e1,e2,e3,e4,e5)),[zV (w,v,t,y,u,(g,j,r),xH (w,v,t,y,u,(g,j,r),f,z) (e0,e1,e2,e3,e4,e5),z)],zW (w,v,t,y,u,(g,j,r),xH (w,v,t,y,u,(g,j,r),f,z) (e0,e1,e2,e3,e4,e5),z)⟩:=fun n h0 h=>fin n f h (by unfold xH;rw[h,if_neg h0])
  have hlt:pIx f e3<f.length:=ixS_ltL
  have a1:e2≠t->vM (w,v,t,y,u,(g,j,r),f,z) (e0,e1,e2,e3,e4,e5)=10:=fun h=>by unfold vM;rw[if_pos h]
  have a2:e2=t->e3<0->vM (w,v,t,y,u,(g,j,r),f,z) (e0,e1,e2,e3,e4,e5)=2:=fun h1 h=>by unfold vM;rw[if_neg (fun k=>k h1),if_pos h]
  have a3:e2=t->¬ e3<0->e3>=16->vM (w,v,t,y,u,(g,j,r),f,z) (e0,e1,e2,e3,e4,e5)=2:=fun h1 h2 h=>by unfold vM;rw[if_neg (fun k=>k h1),if_neg h2,if_pos h]
  have a4:e2=t->¬ e3<0->¬ e3>=16->vB v e4=false->vM (w,v,t,y,u,(g,j,r),f,z) (e0,e1,e2,e3,e4,e5)=2:=fun h1 h2 h3 h=>by unfold vM;rw[if_neg (fun k=>k h1),if_neg h2,if_neg h3,if_pos h]
  have a5:e2=t->¬ e3<0->¬ e3>=16->vB v e4=true->wi e5 e0 2199023255552=false->vM (w,v,t,y,u,(g,j,r),f,z) (e0,e1,e2,e3,e4,e5)=2:=fun h1 h2 h3 h4 h=>by unfold vM;rw[if_neg (fun k=>k h1),if_neg h2,if_neg h3,if_neg (by rw[h4];decide),if_pos h]
  have a6:e2=t->¬ e3<0->¬ e3>=16->vB v e4=true->wi e5 e0 2199023255552=true->vM (w,v,t,y,u,(g,j,r),f,z) (e0,e1,e2,e3,e4,e5)=if 0<=pIx f e3/\(gPm f (pIx f e3)).2.2.2=true then 9 else 0:=fun h1 h2 h3 h4 h5=>by unfold vM;rw[if_neg (fun k=>k h1),if_neg h2,if_neg h3,if_neg (by rw[h4];decide),if_neg (by rw[h5];decide)];rfl
  refine⟨fun c1=>bad 10 (by decide) (a1 (zAi c1)),fun c1=>⟨fun c2=>bad 2 (by decide) (a2 (wF c1) (dcT c2)),fun c2=>⟨fun c3=>bad 2 (by decide) (a3 (wF c1) (dcF c2) (dcT c3)),fun c3=>⟨fun c4=>bad 2 (by decide) (a4 (wF c1) (dcF c2) (dcF c3) (xP c4)),fun c4=>⟨fun c5=>bad 2 (by decide) (a5 (wF c1) (dcF c2) (dcF c3) (qR c4) (xP c5)),fun c5=>?_⟩⟩⟩⟩⟩
  have k6:=a6 (wF c1) (dcF c2) (dcF c3) (qR c4) (qR c5)
  refine⟨by omega,⟨fun c6=>?_,fun c6=>?_⟩⟩
  ·have d1:0<=pIx f e3:=dcT c6
   have d2:(pIx f e3).toNat<f.length:=by omega
   refine⟨⟨d1,hlt⟩,⟨d2,⟨fun c7=>bad 9 (by decide) (k6.trans (if_pos ⟨d1,c7⟩)),fun c7=>⟨⟨d1,hlt⟩,⟨d2,?_⟩⟩⟩⟩⟩
   have d8:¬ (gPm f (pIx f e3)).2.2.2=true:=fun k=>by
    rw[show (gPm f (pIx f e3)).2.2.2=false from c7] at k;cases k
   have e:=k6.trans (if_neg (fun k=>d8 k.2))
   exact fin 0 _ e (by unfold xH;rw[if_pos e];exact if_pos d1)
  ·have d1:¬ 0<=pIx f e3:=dcF c6
   exact absurd ⟨k6.trans (if_neg (fun k=>d1 k.1)),by omega⟩ hno)
end
end Go.MB
