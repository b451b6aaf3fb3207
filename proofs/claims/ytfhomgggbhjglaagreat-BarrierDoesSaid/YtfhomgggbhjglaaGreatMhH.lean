/- The functions do and Do hand back new memory. -/
import Derived.Test.YtfhomgggbhjglaaGreatMhD
import Derived.Test.YtfhomgggbhjglaaGreatMuZ
namespace Go.MB
open Go Go.Sx Go.Proofs
set_option linter.unusedVariables false
set_option linter.unusedSimpArgs false
noncomputable section
def oCp:Oper:=(vL vV).getD 1 default
theorem oCp_at:(vI vV)[1]? = some oCp:=by kernel_rfl
theorem oCp_guard:oCp.guard=none:=by kernel_rfl
theorem oCp_op:oCp.op = .call { callee:=.value (.func 64),args:=#[.tmp 42],argTypes:=#[28] }:=by kernel_rfl
theorem oCp_dst:oCp.dst=some 43:=by kernel_rfl
theorem oCp_ent:entB P 64=true:=by kernel_rfl
theorem copyN_hand{t c h o p n k:Int}{es:List E4}{vs:List (List Int)}{ps:List Pm}(hs:sOk (t,c,h,o,p,(es,vs,n),ps,k)) {E:En}{U:Nat->Bool}{w:World}{v:Value}(hlt:∀b,E.I b->b<w.heap.size) (hr:Rep E U w (.agg (fR t c h o p es vs n ps k)) v) :
  Calls P 64 #[v] w (CpR w t c h o p n k es vs ps):=by
 have hr2:zA (E0 E.I) noU w (z_ 0 [.agg zR] ((t,c,h,o,p,(es,vs,n),ps,k),())) [v]:=by
  have h1:=zI (E:=E) (E':=E0 E.I) (U':=noU) rfl _ _ (by rfl) hr
  exact zA.cons h1 zA.nil
 exact copy_new (t:=t) (c:=c) (h:=h) (o:=o) (p:=p) (n:=n) (k:=k) (es:=es) (vs:=vs) (ps:=ps) hs.1.1 hs.1.2.1 hs.1.2.2 hs.2 hlt hr2
theorem fin_site{w w8 w9:World}{ED:En}{U0:Nat->Bool}{E8:En}{U:Nat->Bool}{J:Nat->Prop}{w5:World}{v:Value}{t c h o p n k:Int}{es:List E4}{vs:List (List Int)}{ps:List Pm}(f:Frm w (fun b=>w.heap.size<=b) w8)
  (hle:En.Le U0 U ED E8 w5 w8) (hU:∀j,j∈[701,702,703]->U0 j=true) (hlt:∀b,E8.I b->b<w8.heap.size) (hJ1:∀b,J b->w.heap.size<=b) (hJ2:∀b,J b->ED.I b) (d1:zG J w5 (.sl tEl) es [ED.sv 701]) (d2:zG J w5 (.sl tIs) vs [ED.sv 702]) (d3:zG J w5 (.sl tPm) ps [ED.sv 703])
  (g1:w9.os=w8.os) (g2:w9.tape=w8.tape) (g3:w9.output=w8.output) (g4:w9.drawn=w8.drawn) (g5:w9.heap.size=w8.heap.size)
  (g6:∀b,(w.heap.size<=b->w8.heap[b]? ≠ some (.deferred (some [])))->w9.heap[b]? = w8.heap[b]?) (g7:∀b,E8.I b->w9.heap[b]? = w8.heap[b]?) (hrep:Rep E8 U w9 (qP [.agg (siteM t c h o p n k 701 702 703),.int .i64 0]) v) :
  qL (resG ((t,c,h,o,p,(es,vs,n),ps,k),0))=true/\∃v',Ending.returned v = .returned v'/\Frm w (fun _=>False) w9/\∃I' : Nat->Prop,(∀b,I' b->w.heap.size<=b)/\(∀b,I' b->b<w9.heap.size)/\Rep (E0 I') noU w9 (resG ((t,c,h,o,p,(es,vs,n),ps,k),0)) v':=by
 refine⟨rfl,v,rfl,⟨g1.trans f.os,g2.trans f.tape,g3.trans f.output,by rw[g5];exact f.size,by rw[g4];exact f.drawn,fun b hb _=>(g6 b fun hN=>absurd hb (Nat.not_lt.2 hN)).trans (f.block b hb (Nat.not_le.2 hb))⟩,J,hJ1,fun b hb=>by rw[g5];exact hlt b (hle.imm b (hJ2 b hb)),?_⟩
 have fM:∀b,J b->w9.heap[b]? = w5.heap[b]?:=fun b hb=>(g7 b (hle.imm b (hJ2 b hb))).trans (hle.heap b (hJ2 b hb))
 have up:∀(ty:Ty)(d:ty.den)(v:List Value),zG J w5 ty d v->zG J w9 ty d v:=fun ty d v hd=>zG.mono (fun b hb=>hb) fM _ _ _ hd
 have e1:E8.sv 701=ED.sv 701:=hle.sv _ (hU 701 (by decide))
 have e2:E8.sv 702=ED.sv 702:=hle.sv _ (hU 702 (by decide))
 have e3:E8.sv 703=ED.sv 703:=hle.sv _ (hU 703 (by decide))
 have hrep:Rep E8 U w9 (.tup [.agg (siteM t c h o p n k 701 702 703),.int .i64 0]) v:=hrep
 show Rep (E0 J) noU w9 (.tup [.agg (fR t c h o p es vs n ps k),.int .i64 0]) v
 unfold Rep at hrep ⊢
 obtain⟨us,rfl,hl⟩:=hrep
 refine⟨us,rfl,?_⟩
 unfold zA at hl
 obtain⟨v0,r,rfl,h0,hl⟩:=hl
 unfold zA at hl
 obtain⟨v1,r,rfl,h1,hl⟩:=hl
 unfold zA at hl
 subst hl
 refine zA.cons ?_ (zA.cons (by unfold Rep at h1 ⊢;exact h1) zA.nil)
 unfold Rep at h0
 obtain⟨xs,rfl,hx⟩:=h0
 have kx:=ex_repL (by rfl) hx
 simp only[List.map_cons,List.map_nil,exV] at kx
 unfold Rep
 refine⟨xs,rfl,?_⟩
 rw[kx,e1,e2,e3]
 exact siteD_of (up _ _ _ d1) (up _ _ _ d2) (up _ _ _ d3)
set_option maxRecDepth 100000 in
theorem do_fresh{t c h o p:Int}{es:List E4}{vs:List (List Int)}{n:Int}{ps:List Pm}{k:Int}{e0 e1 e2 e3 e4 e5:Int}(hs:sOk (t,c,h,o,p,(es,vs,n),ps,k)) (hh:zB (es,vs,n)=0) (hl9:ps.length<=900) :
  qY P 50 (z_ 0 [.agg zR,.agg jE] ((t,c,h,o,p,(es,vs,n),ps,k),(e0,e1,e2,e3,e4,e5),())) (resG (doG (t,c,h,o,p,(es,vs,n),ps,k) (e0,e1,e2,e3,e4,e5))):=by
 intro I w zM hI hr
 have hf:P.funcs[50]? = some Tryz.f50:=by kernel_rfl
 have hc:Tryz.f50.body=some bDo:=by kernel_rfl
 have hn:Tryz.f50.ntmps=86:=by kernel_rfl
 have hcut:yZ 4 bDo = .seq vV (yZ 5 bDo):=by kernel_rfl
 have hreg:vV = .region 10 (vI vV) false:=by kernel_rfl
 refine (callsIn_wide (n:=0)).1 (callsIn_of_wp_marks (F:=FR none) hf hc trivial ?_ rfl)
 rw[hn]
 have hsat:=start_sat (n:=86) hI (by show 2<=86;decide) hr
 refine execCut hm (r0:=none) (u0:=noU) (cx:=[wE.gc,kY.gc,c_deeds.gc]) (lp:=fun _=>none) (ys:=[]) (B:=⟨w,fun _=>False,E0 I,noU,86,[]⟩)
  (Q:=QA (t,c,h,o,p,(es,vs,n),ps,k) (e0,e1,e2,e3,e4,e5)) (fun k hk=>by cases hk) (fun h hh=>by cases hh) 4 bDo 0
  (fW (z_ 0 [.agg zR,.agg jE] ((t,c,h,o,p,(es,vs,n),ps,k),(e0,e1,e2,e3,e4,e5),()))) (fun _=>none) kDA _ (vQ _ _ _ _) (jP _ _) (dA_ok hs hh hl9) ?_ _ w ⟨E0 I,hsat⟩
 intro e S' K' a w1 hK' hs' hk
 cases e with
 |ret=>
  obtain⟨cs,q,m,hres,hq⟩:=kO (P:=P) (n:=86) (fn:=Tryz.f50) (S:=S') (k:=fun r=>Tree.leaf (Exit.ret,r,([]:List (Option Ob)),([]:List Bool))) hk
  obtain⟨E',hsE⟩:=hs'
  rcases (show _\/_ from hq) with⟨z,h2,h3⟩ |⟨f,h2,_⟩
  ·injection h2 with _ h2
   injection h2 with h2 _
   rw[h2] at hres
   rw[h3]
   show LeavesInM (FR none) 0 P _ a.tmps _ a.defers .returning w1
   refine kT hsE (zL.step hsE (Nat.le_refl _) (zL.nil _ _ _) (fun b hb=>hb.elim)) hres fun v w2 g1 g2 g3 g4 g5 g6 g7 hs7 hrep=>?_
   exact fin_zero ((Frm.refl w _).trans' hsE.heap.frame fun _ _ _ x=>x) g1 g2 g3 g4 g5 g6 hrep
  ·have:=congrArg (·.1) h2
   cases this
 |normal=>
  show (yZ 4 bDo).wpIn (FR none) 0 P _ a w1
  rw[hcut]
  refine wpIn_seq ?_
  rw[hreg]
  refine wpIn_region ?_
  obtain⟨r,g,K3,hL,_,_,hk3⟩:=yY (P:=P) _ S' K' [] hK' (show (jQ (P:=P) [] 86 (vI vV) false ((vL vV).take 1) S' K' [] (fun S _=>obs [2,3,4,6,42] [3086,4086,5086] [3086,4086,5086] .normal S)).holds _ from hk)
  have er:List.range (vI vV).size=List.range' 0 ((vL vV).take 1).length++[1,2,3]:=by kernel_rfl
  rw[er]
  refine kS hL 0 (fun j o' ho' =>?_) a w1 hs' fun a3 w3 hs3=>?_
  ·have e0:(vI vV).toList=(vL vV):=by kernel_rfl
   rw[<- Array.getElem?_toList,e0,Nat.zero_add]
   rw[List.getElem?_take] at ho'
   split at ho'
   ·exact ho'
   ·cases ho'
  rcases yV hk3 with⟨z,hq,_⟩ |⟨f,hq,hact,hd⟩
  ·have:=congrArg (·.1) hq
   cases this
  injection hq with _ hq
  injection hq with ht hq
  injection hq with hh' _
  simp only[List.map_cons,List.map_nil,List.cons.injEq,and_true] at ht hh'
  obtain⟨t2,t3,t4,t6,t42⟩:=ht
  obtain⟨b2,b3,b4⟩:=hh'
  obtain⟨E3,hs3⟩:=hs3
  have f3:Frm w (fun b=>w.heap.size<=b) w3:=(Frm.refl w _).trans' hs3.heap.frame fun _ _ _ x=>x
  have mk3:zL w.heap.size w3 E3.I a3.defers:=zL.step hs3 (Nat.le_refl _) (zL.nil _ _ _) (fun b hb=>hb.elim)
  have ge3:∀j,jF E3 g.heap j->w.heap.size<=E3.ρ j:=fun j hj=>(hs3.heap.mine j hj).elim (fun h=>h.elim) id
  have v42:=hs3.tmps 42 (show 42<86 by decide)
  rw[t42] at v42
  refine call_hand oCp_at oCp_guard oCp_op oCp_ent (by decide) ?_
  rw[oCp_dst]
  have ex:(#[.tmp 42]:Array Operand).map a3.eval = #[a3.tmps.getD 42 undef]:=by simp[Act.eval]
  rw[ex]
  refine (copyN_hand hs hs3.heap.lt v42).mono ?_
  rintro e w4 ⟨v,rfl,hf4,Ec,Uc,Hc,hc4,h1,h2,hN,hrep⟩
  refine⟨v,rfl,?_⟩
  obtain⟨EC,hCI,r2,r3,r4,hmof,hmk,hsC⟩:=do_csC (f:=f) (e0:=e0) (e1:=e1) (e2:=e2) (e3:=e3) (e4:=e4) (e5:=e5) hs3 rfl t2 t3 t4 t6 b3 b4 hf4 hc4 h1 h2 hN hrep
  have hCN:∀b,EC.I b->w3.heap.size<=b:=fun b hb=>hN b (by rw[<- hCI];exact hb)
  have ge4:∀b,Mof EC (csC f t c h o p es vs n ps k e0 e1 e2 e3 e4 e5).heap b->w.heap.size<=b:=fun b hb=>by
   rcases hmof b hb with rfl |rfl |hb
   ·exact ge3 _ ⟨_,b3,trivial⟩
   ·exact ge3 _ ⟨_,b4,trivial⟩
   ·exact Nat.le_trans f3.size hb
  have f4:=Frm.up f3 hf4 (fun _ x=>x.elim)
  have mk4:zL w.heap.size w4 EC.I a3.defers:=mk3.fM (fun b hb=>hf4.block b (Array.getElem?_eq_some_iff.1 hb).1 (fun x=>x)) (fun b hb hi=>absurd (Array.getElem?_eq_some_iff.1 hb).1 (Nat.not_lt.2 (hCN b hi)))
  refine do_partC ⟨EC,hsC⟩ rfl hact ?_ ?_
  ·rintro S a' w' q m ⟨E5,hs5⟩ hne heq hres
   rw[heq] at hres
   have hd:doG (t,c,h,o,p,(es,vs,n),ps,k) (e0,e1,e2,e3,e4,e5)=(qJ,jJ (t,c,h,o,p,(es,vs,n),ps,k) (e0,e1,e2,e3,e4,e5)):=by
    rw[hd];exact if_pos hne
   rw[hd]
   show LeavesInM (FR none) 0 P _ a'.tmps _ a'.defers .returning w'
   refine kT hs5 (zL.step hs5 (Nat.le_trans f3.size hf4.size) mk4 hmk) hres fun v w2 g1 g2 g3 g4 g5 g6 g7 hs7 hrep=>?_
   exact fin_zero (Frm.up f4 hs5.heap.frame ge4) g1 g2 g3 g4 g5 g6 hrep
  ·rintro x y l a5 w5 ⟨E5,hs5⟩ h0 hq
   have hd:doG (t,c,h,o,p,(es,vs,n),ps,k) (e0,e1,e2,e3,e4,e5)=(setB (fL (zK (t,c,h,o,p,(es,vs,n),ps,k) (e0,e1,e2,e3,e4,e5)) e0) (brkN (t,c,h,o,p,(es,vs,n),ps,k) (e0,e1,e2,e3,e4,e5) (zK (t,c,h,o,p,(es,vs,n),ps,k) (e0,e1,e2,e3,e4,e5))),0):=by
    rw[hd];exact if_neg (fun hn=>hn h0)
   have hk:=actS_k (t,c,h,o,p,(es,vs,n),ps,k) (e0,e1,e2,e3,e4,e5)
   rw[hd]
   generalize zK (t,c,h,o,p,(es,vs,n),ps,k) (e0,e1,e2,e3,e4,e5)=T at hq hk ⊢
   obtain⟨t',c',h',o',p',⟨es',vs',n'⟩,ps',k'⟩:=T
   obtain⟨ED,J,hJ1,hJ2,mk5,ge5,d1,d2,d3,hsD⟩:=do_csD (bb:=jM (e0,c',h',o',p',(es',vs',n'),ps',k') e0) (t':=e0) (c':=c') (h':=h') (o':=o') (p':=p') (es':=es') (vs':=vs') (n':=n') (ps':=ps') (k':=k') hs3 b2 b3 b4 hf4 hCN r2 r3 r4 hmof hmk hs5 hq ge3 f3.size mk3
   refine do_partD ⟨ED,hsD⟩ rfl (dD_ok (t',c',h',o',p',(es',vs',n'),ps',k') rfl hk hh (Nat.le_trans hl9 (by decide))) ?_
   rintro S e a' w' cs q m ⟨E8,hs8⟩ heq hres
   injection heq with he heq
   subst he
   rw[heq] at hres
   show LeavesInM (FR none) 0 P _ a'.tmps _ a'.defers .returning w'
   refine kT hs8 (zL.step hs8 (Nat.le_trans f4.size hs5.heap.frame.size) mk5 (fun b hb=>(ge5 b hb).2)) hres fun v w9 g1 g2 g3 g4 g5 g6 g7 hs9 hrep=>?_
   exact fin_site (Frm.up (Frm.up f4 hs5.heap.frame ge4) hs8.heap.frame (fun b hb=>(ge5 b hb).1)) hs8.le (fun j hj=>(yU (ts:=[]) (hs:=[])).2 (by simp at hj ⊢;omega)) hs8.heap.lt hJ1 hJ2 d1 d2 d3 g1 g2 g3 g4 g5 g6 g7 hrep
 |_=>exact hk.elim
def bDoo:Code:=zJ Tryz.f16
def gK:Code:=yR (yZ 2 bDoo)
def kEA(e:Exit)(S:St)(K:Kn):Tree (Exit×List SV×List (Option Ob)×List Bool):=match e with
 |.normal=>jQ (P:=P) [] 18 (vI gK) false ((vL gK).take 2) S K [] (fun S _=>obs [4,13,14] [5018] [5018] .normal S)
 |.ret=>obsT P 18 Tryz.f16 S fun r=>.leaf (.ret,r,[],[])
 |_=>.fail 60
theorem T_eA(t c h o p:Int)(es:List E4)(vs:List (List Int))(n:Int)(ps:List Pm)(k:Int)(e0 e1 e2 e3 e4 e5:Int):jR (P:=P) [c_Check.gc] (fun _=>none) [] 18 0 (cut1 2 bDoo) (fW (z_ 0 [.agg zR,.agg jE] ((t,c,h,o,p,(es,vs,n),ps,k),(e0,e1,e2,e3,e4,e5),()))) (fun _=>none) kEA =
 Tree.need (sOk (t,c,h,o,p,(es,vs,n),ps,k)) (.cond (vY (t,c,h,o,p,(es,vs,n),ps,k) != 0) (.leaf (Exit.ret,[.agg [.int .i64 0,.int .i64 0,.int .i64 0,.int .i64 0,.int .i64 0,.nils,.nils,.int .i64 0,.nils,.int .i64 0],.int .i64 (vY (t,c,h,o,p,(es,vs,n),ps,k))],[],[])) (.leaf (Exit.normal,[SV.ptr 5018 0,.agg [.int .i64 t,.int .i64 c,.int .i64 h,.int .i64 o,.int .i64 p,.sl (Ty.pair tI (Ty.pair tI (Ty.pair tI tI))) es,.sl (Ty.sl tI) vs,.int .i64 n,.sl (Ty.pair tI (Ty.pair tI (Ty.pair tI Ty.bool))) ps,.int .i64 k],.agg [.int .i64 e0,.int .i64 e1,.int .i64 e2,.int .i64 e3,.int .i64 e4,.int .i64 e5]],[some (Ob.box [.int .i64 0,.int .i64 0,.int .i64 0,.int .i64 0,.int .i64 0,.nils,.nils,.int .i64 0,.nils,.int .i64 0])],[true]))):=by kernel_rfl
def csE(t c h o p:Int)(es:List E4)(vs:List (List Int))(n:Int)(ps:List Pm)(k m:Int):St:=wZ [(4,.ptr 5018 0),(15,.tup [.agg (fR t c h o p es vs n ps k),.int .i64 m])] [(5018,some (.box xS))] [5018]
def kEB(S:St)(K:Kn):Tree (Exit×List SV):=jR (P:=P) [] (fun _=>none) [] 18 0 (yZ 3 bDoo) S K (fun e S _=>obsT P 18 Tryz.f16 S fun r=>.leaf (e,r))
theorem T_eB(t c h o p:Int)(es:List E4)(vs:List (List Int))(n:Int)(ps:List Pm)(k m:Int):jQ (P:=P) [] 18 (vI gK) false ((vL gK).drop 3) (csE t c h o p es vs n ps k m) (fun _=>none) [] kEB =
 Tree.leaf (Exit.ret,[.agg [.int .i64 t,.int .i64 c,.int .i64 h,.int .i64 o,.int .i64 p,.sl (Ty.pair tI (Ty.pair tI (Ty.pair tI tI))) es,.sl (Ty.sl tI) vs,.int .i64 n,.sl (Ty.pair tI (Ty.pair tI (Ty.pair tI Ty.bool))) ps,.int .i64 k],.int .i64 m]):=by kernel_rfl
def oDo:Oper:=(vL gK).getD 2 default
theorem oDo_at:(vI gK)[2]? = some oDo:=by kernel_rfl
theorem oDo_guard:oDo.guard=none:=by kernel_rfl
theorem oDo_op:oDo.op = .call { callee:=.value (.func 50),args:=#[.tmp 13,.tmp 14],argTypes:=#[28,30] }:=by kernel_rfl
theorem oDo_dst:oDo.dst=some 15:=by kernel_rfl
theorem oDo_ent:entB P 50=true:=by kernel_rfl
theorem do_hand{t c h o p:Int}{es:List E4}{vs:List (List Int)}{n:Int}{ps:List Pm}{k:Int}{e0 e1 e2 e3 e4 e5:Int}(hs:sOk (t,c,h,o,p,(es,vs,n),ps,k)) (hh:zB (es,vs,n)=0) (hl9:ps.length<=900) {E:En}{U:Nat->Bool}{w:World}{v u:Value}(hlt:∀b,E.I b->b<w.heap.size)
  (hr:Rep E U w (.agg (fR t c h o p es vs n ps k)) v) (hu:Rep E U w (.agg (entD e0 e1 e2 e3 e4 e5)) u) :
  Calls P 50 #[v,u] w fun e w' =>qL (resG (doG (t,c,h,o,p,(es,vs,n),ps,k) (e0,e1,e2,e3,e4,e5)))=true/\∃v,e = .returned v/\Frm w (fun _=>False) w'/\∃J:Nat->Prop,(∀b,J b->w.heap.size<=b)/\(∀b,J b->b<w'.heap.size)/\Rep (E0 J) noU w' (resG (doG (t,c,h,o,p,(es,vs,n),ps,k) (e0,e1,e2,e3,e4,e5))) v:=by
 have hr2:zA (E0 E.I) noU w (z_ 0 [.agg zR,.agg jE] ((t,c,h,o,p,(es,vs,n),ps,k),(e0,e1,e2,e3,e4,e5),())) [v,u]:=by
  have h1:=zI (E:=E) (E':=E0 E.I) (U':=noU) rfl _ _ (by rfl) hr
  have h2:=zI (E:=E) (E':=E0 E.I) (U':=noU) rfl _ _ (by rfl) hu
  exact zA.cons h1 (zA.cons h2 zA.nil)
 exact do_fresh hs hh hl9 E.I w [v,u] hlt hr2
set_option maxRecDepth 100000 in
theorem Do_fresh{t c h o p:Int}{es:List E4}{vs:List (List Int)}{n:Int}{ps:List Pm}{k:Int}{e0 e1 e2 e3 e4 e5:Int}(hs:sOk (t,c,h,o,p,(es,vs,n),ps,k)) (hl9:ps.length<=900) :
  qY P 16 (z_ 0 [.agg zR,.agg jE] ((t,c,h,o,p,(es,vs,n),ps,k),(e0,e1,e2,e3,e4,e5),())) (resG (dS (t,c,h,o,p,(es,vs,n),ps,k) (e0,e1,e2,e3,e4,e5))):=by
 intro I w zM hI hr
 have hf:P.funcs[16]? = some Tryz.f16:=by kernel_rfl
 have hc:Tryz.f16.body=some bDoo:=by kernel_rfl
 have hn:Tryz.f16.ntmps=18:=by kernel_rfl
 have hcut:yZ 2 bDoo = .seq gK (yZ 3 bDoo):=by kernel_rfl
 have hreg:gK = .region 4 (vI gK) false:=by kernel_rfl
 refine (callsIn_wide (n:=0)).1 (callsIn_of_wp_marks (F:=FR none) hf hc trivial ?_ rfl)
 rw[hn]
 have hsat:=start_sat (n:=18) hI (by show 2<=18;decide) hr
 refine execCut hm (r0:=none) (u0:=noU) (cx:=[c_Check.gc]) (lp:=fun _=>none) (ys:=[]) (B:=⟨w,fun _=>False,E0 I,noU,18,[]⟩)
  (Q:=fun x=>(vY (t,c,h,o,p,(es,vs,n),ps,k)≠0/\x=(.ret,[.agg xS,.int .i64 (vY (t,c,h,o,p,(es,vs,n),ps,k))],[],[]))\/(vY (t,c,h,o,p,(es,vs,n),ps,k)=0/\x=(.normal,[.ptr 5018 0,.agg (fR t c h o p es vs n ps k),.agg (entD e0 e1 e2 e3 e4 e5)],[some (.box xS)],[true]))) (fun k hk=>by cases hk) (fun h hh=>by cases hh) 2 bDoo 0
  (fW (z_ 0 [.agg zR,.agg jE] ((t,c,h,o,p,(es,vs,n),ps,k),(e0,e1,e2,e3,e4,e5),()))) (fun _=>none) kEA _ (vQ _ _ _ _) (jP _ _) ?_ ?_ _ w ⟨E0 I,hsat⟩
 ·have hT:=T_eA t c h o p es vs n ps k e0 e1 e2 e3 e4 e5
  rw[hT]
  exact⟨hs,fun d=>.inl ⟨zAi d,rfl⟩,fun d=>.inr ⟨wF d,rfl⟩⟩
 intro e S' K' a w1 hK' hs' hk
 cases e with
 |ret=>
  obtain⟨cs,q,m,hres,hq⟩:=kO (P:=P) (n:=18) (fn:=Tryz.f16) (S:=S') (k:=fun r=>Tree.leaf (Exit.ret,r,([]:List (Option Ob)),([]:List Bool))) hk
  obtain⟨E',hsE⟩:=hs'
  rcases (show _\/_ from hq) with⟨h2,h3⟩ |⟨_,h2⟩
  ·injection h3 with _ h3
   injection h3 with h3 _
   rw[h3] at hres
   have hd:dS (t,c,h,o,p,(es,vs,n),ps,k) (e0,e1,e2,e3,e4,e5)=(qJ,vY (t,c,h,o,p,(es,vs,n),ps,k)):=if_pos h2
   rw[hd]
   show LeavesInM (FR none) 0 P _ a.tmps _ a.defers .returning w1
   refine kT hsE (zL.step hsE (Nat.le_refl _) (zL.nil _ _ _) (fun b hb=>hb.elim)) hres fun v w2 g1 g2 g3 g4 g5 g6 g7 hs7 hrep=>?_
   exact fin_zero ((Frm.refl w _).trans' hsE.heap.frame fun _ _ _ x=>x) g1 g2 g3 g4 g5 g6 hrep
  ·have:=congrArg (·.1) h2
   cases this
 |normal=>
  show (yZ 2 bDoo).wpIn (FR none) 0 P _ a w1
  rw[hcut]
  refine wpIn_seq ?_
  rw[hreg]
  refine wpIn_region ?_
  obtain⟨r,g,K3,hL,_,_,hk3⟩:=yY (P:=P) _ S' K' [] hK' (show (jQ (P:=P) [] 18 (vI gK) false ((vL gK).take 2) S' K' [] (fun S _=>obs [4,13,14] [5018] [5018] .normal S)).holds _ from hk)
  have er:List.range (vI gK).size=List.range' 0 ((vL gK).take 2).length++[2,3,4,5,6]:=by kernel_rfl
  rw[er]
  have e0' : (vI gK).toList=(vL gK):=by kernel_rfl
  refine kS hL 0 (fun j o' ho' =>?_) a w1 hs' fun a3 w3 hs3=>?_
  ·rw[<- Array.getElem?_toList,e0',Nat.zero_add]
   rw[List.getElem?_take] at ho'
   split at ho'
   ·exact ho'
   ·cases ho'
  rcases yV hk3 with⟨z,hq⟩ |⟨h0,hq⟩
  ·have:=congrArg (·.1) hq
   cases this
  injection hq with _ hq
  injection hq with ht hq
  injection hq with hh' _
  simp only[List.map_cons,List.map_nil,List.cons.injEq,and_true] at ht hh'
  obtain⟨t4,t13,t14⟩:=ht
  obtain⟨E3,hs3⟩:=hs3
  have f3:Frm w (fun b=>w.heap.size<=b) w3:=(Frm.refl w _).trans' hs3.heap.frame fun _ _ _ x=>x
  have mk3:zL w.heap.size w3 E3.I a3.defers:=zL.step hs3 (Nat.le_refl _) (zL.nil _ _ _) (fun b hb=>hb.elim)
  have l5:jF E3 g.heap 5018:=⟨_,hh',trivial⟩
  have ge5:w.heap.size<=E3.ρ 5018:=(hs3.heap.mine _ l5).elim (fun h=>h.elim) id
  have lt5:=hs3.heap.jV l5
  have v13:=hs3.tmps 13 (show 13<18 by decide)
  have v14:=hs3.tmps 14 (show 14<18 by decide)
  have v4:=hs3.tmps 4 (show 4<18 by decide)
  rw[t13] at v13
  rw[t14] at v14
  rw[t4] at v4
  refine call_hand oDo_at oDo_guard oDo_op oDo_ent (by decide) ?_
  rw[oDo_dst]
  have ex:(#[.tmp 13,.tmp 14]:Array Operand).map a3.eval = #[a3.tmps.getD 13 undef,a3.tmps.getD 14 undef]:=by simp[Act.eval]
  rw[ex]
  refine (do_hand hs (fC h0) hl9 hs3.heap.lt v13 v14).mono ?_
  rintro e w4 ⟨_,v,rfl,hf4,J,hJ1,hJ2,hrep⟩
  refine⟨v,rfl,?_⟩
  rw[dS_ok h0]
  generalize doG (t,c,h,o,p,(es,vs,n),ps,k) (e0,e1,e2,e3,e4,e5)=G at hrep ⊢
  obtain⟨⟨t',c',h',o',p',⟨es',vs',n'⟩,ps',k'⟩,m⟩:=G
  obtain⟨_,xs,ty,q5,p5⟩:=hs3.heap.ob 5018 _ hh'
  let EE:En:=⟨E3.ρ,E3.sv,J,E3.rc⟩
  have hmof:∀b,Mof EE (csE t' c' h' o' p' es' vs' n' ps' k' m).heap b->b=E3.ρ 5018:=by
   rintro b ⟨j,⟨oj,hj,lj⟩,rfl⟩
   have hm:=xG hj
   simp only[List.mem_cons,List.not_mem_nil,or_false,Prod.mk.injEq,Option.some.injEq] at hm
   rw[hm.1]
  have q5' : w4.heap[E3.ρ 5018]? = some (.cells (zP xS xs).toArray ty (0,0)):=(hf4.block _ lt5 fun x=>x).trans q5
  have hsz:a3.tmps.size=18:=hs3.size
  have hn15:(15:Nat)<a3.tmps.size:=by rw[hsz];decide
  have hsat:SatE ⟨w4,Mof EE (csE t' c' h' o' p' es' vs' n' ps' k' m).heap,EE,apU noU [5018],18,a3.defers⟩ EE (csE t' c' h' o' p' es' vs' n' ps' k' m) (a3.put (some 15) v) w4:=by
   refine wA (by rw[put_size,hs3.size]) (by rw[kM]) ?_ ?_ ?_ ?_ hJ2
   ·intro q hq
    simp only[List.mem_cons,List.not_mem_nil,or_false] at hq
    rcases hq with rfl |rfl
    ·rw[put_get _ _ _ _ (by rw[hsz];decide),if_neg (by decide)]
     unfold Rep at v4 ⊢
     exact⟨rfl,v4.2⟩
    ·rw[put_get _ _ _ _ hn15,if_pos rfl]
     exact zI (E:=E0 J) (E':=EE) rfl _ _ (by rfl) hrep
   ·intro kk oo hk'
    simp only[List.mem_cons,List.not_mem_nil,or_false,Prod.mk.injEq,Option.some.injEq] at hk'
    obtain⟨rfl,rfl⟩:=hk'
    exact⟨by decide,xs,ty,q5',wU _ _ (by rfl) p5⟩
   ·intro j oj kk ok hj hk' _ _ _
    simp only[List.mem_cons,List.not_mem_nil,or_false,Prod.mk.injEq,Option.some.injEq] at hj hk'
    rw[hj.1,hk'.1]
   ·intro kk oo hk' lk
    simp only[List.mem_cons,List.not_mem_nil,or_false,Prod.mk.injEq,Option.some.injEq] at hk'
    obtain⟨rfl,rfl⟩:=hk'
    exact⟨fun hj=>absurd (hJ1 _ hj) (Nat.not_le.2 lt5),5018,⟨_,rfl,lk⟩,rfl⟩
  have mk4:zL w.heap.size w4 EE.I a3.defers:=mk3.fM (fun b hb=>hf4.block b (Array.getElem?_eq_some_iff.1 hb).1 (fun x=>x)) (fun b hb hi=>absurd (Array.getElem?_eq_some_iff.1 hb).1 (Nat.not_lt.2 (hJ1 b hi)))
  have hT:(jQ (P:=P) [] 18 (vI gK) false ((vL gK).drop 3) (csE t' c' h' o' p' es' vs' n' ps' k' m) (fun _=>none) [] kEB).holds fun x=>x=(Exit.ret,[.agg (fR t' c' h' o' p' es' vs' n' ps' k'),.int .i64 m]):=by
   have hT:=T_eB t' c' h' o' p' es' vs' n' ps' k' m
   rw[hT]
   exact rfl
  obtain⟨r,l,K5,hL5,hK5,_,hk5⟩:=yY _ _ _ [] (jP _ _) hT
  have er:([3,4,5,6]:List Nat)=List.range' 3 ((vL gK).drop 3).length++[]:=by kernel_rfl
  rw[er]
  refine kS (B:=⟨w4,Mof EE (csE t' c' h' o' p' es' vs' n' ps' k' m).heap,EE,apU noU [5018],18,a3.defers⟩) hL5 3 (fun j o' ho' =>?_) _ w4 ⟨EE,hsat⟩ fun a5 w5 hs5=>?_
  ·rw[<- Array.getElem?_toList,e0']
   rw[List.getElem?_drop] at ho'
   exact ho'
  show (yZ 3 bDoo).wpIn (FR none) 0 P _ a5 w5
  refine jA hm (r0:=none) (u0:=apU noU [5018]) (cx:=[]) (lp:=fun _=>none) (ys:=[]) (B:=⟨w4,Mof EE (csE t' c' h' o' p' es' vs' n' ps' k' m).heap,EE,apU noU [5018],18,a3.defers⟩) (Q:=fun x=>x=(Exit.ret,[.agg (fR t' c' h' o' p' es' vs' n' ps' k'),.int .i64 m])) (fun k hk=>hk) (fun h hh=>by cases hh) (yZ 3 bDoo) 0 l K5 (fun e S _=>obsT P 18 Tryz.f16 S fun r=>.leaf (e,r)) _ (vQ _ _ _ _) hK5 hk5 ?_ a5 w5 hs5
  rintro e s K7 a7 w7 hK7 ⟨E8,hs8⟩ hk7
  obtain⟨cs,q,m',hres,hq⟩:=kO (P:=P) (n:=18) (fn:=Tryz.f16) (S:=s) (k:=fun r=>Tree.leaf (e,r)) hk7
  injection (show (e,[SV.agg cs,SV.int q m'])=_ from hq) with he heq
  subst he
  rw[heq] at hres
  show LeavesInM (FR none) 0 P _ a7.tmps _ a7.defers .returning w7
  refine kT hs8 (zL.step hs8 (Nat.le_trans f3.size hf4.size) mk4 (fun b hb=>by rw[hmof b hb,q5'];intro h;cases h)) hres fun v w9 g1 g2 g3 g4 g5 g6 g7 hs9 hrep=>?_
  have f:=Frm.up (Frm.up f3 hf4 (fun _ x=>x.elim)) hs8.heap.frame (fun b hb=>by rw[hmof b hb];exact ge5)
  refine⟨rfl,v,rfl,⟨g1.trans f.os,g2.trans f.tape,g3.trans f.output,by rw[g5];exact f.size,by rw[g4];exact f.drawn,fun b hb _=>(g6 b fun hN=>absurd hb (Nat.not_lt.2 hN)).trans (f.block b hb (Nat.not_le.2 hb))⟩,E8.I,fun b hb=>?_,fun b hb=>by rw[g5];exact hs8.heap.lt b hb,zI (E:=E8) (E':=E0 E8.I) rfl _ _ (by rfl) hrep⟩
  rcases hs8.fresh b hb with h |h |h
  ·exact Nat.le_trans f3.size (hJ1 b h)
  ·rw[hmof b h];exact ge5
  ·exact Nat.le_trans f3.size (Nat.le_trans hf4.size h)
 |_=>exact hk.elim
abbrev siteMs(s:zE)(a b d:Nat):List SV:=siteM s.1 s.2.1 s.2.2.1 s.2.2.2.1 s.2.2.2.2.1 s.2.2.2.2.2.1.2.2 s.2.2.2.2.2.2.2 a b d
def doNCon(x:Nat):Con:=fun args H base=>match decL [.agg zR,.agg jE] (vwL H args),H x with
 |some y,some (.box _)=>some { need:=some (sOk y.1/\y.1.2.2.2.2.2.2.1.length<=900),res:=.tup [.agg (siteMs (dS y.1 y.2.1).1 base (base+1) (base+2)),.int .i64 (dS y.1 y.2.1).2],upd:=[(base,some (.nw x tEl (dS y.1 y.2.1).1.2.2.2.2.2.1.1)),(base+1,some (.nw x tIs (dS y.1 y.2.1).1.2.2.2.2.2.1.2.1)),(base+2,some (.nw x tPm (dS y.1 y.2.1).1.2.2.2.2.2.2.1))],news:=[base,base+1,base+2] }
 |_,_=>none
theorem nw_of{J:Nat->Prop}{E:En}{U:Nat->Bool}{w:World}{j x:Nat}{ty:Ty}{l:List ty.den}{v:Value}(hx:U x=true) (hI:∀b,J b->E.I b) (hN:∀b,J b->E.ρ x<=b) (hv:E.sv j=v) (h:zG J w (.sl ty) l [v]):pJ E U w j (.nw x ty l):=by
 obtain⟨u,hu,hsl⟩:=zG.mono (I':=fun b=>E.I b/\E.ρ x<=b) (fun b hb=>⟨hI b hb,hN b hb⟩) (fun _ _=>rfl) _ _ _ h
 cases hu
 refine⟨hx,?_⟩
 rw[hv]
 exact hsl
theorem siteD_vals{E:En}{U:Nat->Bool}{w:World}{t c h o p n k:Int}{es:List E4}{vs:List (List Int)}{ps:List Pm}{us:List Value}(hr:zA E U w (fR t c h o p es vs n ps k) us) :
  ∃x y z,us=[.int .i64 t,.int .i64 c,.int .i64 h,.int .i64 o,.int .i64 p,x,y,.int .i64 n,z,.int .i64 k]/\zG E.I w (.sl tEl) es [x]/\zG E.I w (.sl tIs) vs [y]/\zG E.I w (.sl tPm) ps [z]:=by
 unfold zA at hr
 obtain⟨v0,r,rfl,g0,hr⟩:=hr
 unfold zA at hr
 obtain⟨v1,r,rfl,g1,hr⟩:=hr
 unfold zA at hr
 obtain⟨v2,r,rfl,g2,hr⟩:=hr
 unfold zA at hr
 obtain⟨v3,r,rfl,g3,hr⟩:=hr
 unfold zA at hr
 obtain⟨v4,r,rfl,g4,hr⟩:=hr
 unfold zA at hr
 obtain⟨v5,r,rfl,g5,hr⟩:=hr
 unfold zA at hr
 obtain⟨v6,r,rfl,g6,hr⟩:=hr
 unfold zA at hr
 obtain⟨v7,r,rfl,g7,hr⟩:=hr
 unfold zA at hr
 obtain⟨v8,r,rfl,g8,hr⟩:=hr
 unfold zA at hr
 obtain⟨v9,r,rfl,g9,hr⟩:=hr
 unfold zA at hr
 subst hr
 unfold Rep at g0 g1 g2 g3 g4 g5 g6 g7 g8 g9
 subst g0 g1 g2 g3 g4 g7 g9
 exact⟨v5,v6,v8,rfl,g5,g6,g8⟩
set_option maxRecDepth 100000 in
theorem doN_ok(x:Nat):ConOk P 16 (doNCon x):=by
 intro args H base eff he E U w zM hs hr hfresh hnd
 simp only[doNCon] at he
 split at he<;>try (cases he;done)
 rename_i y cs hx hbox
 cases he
 obtain⟨hn1,hn2⟩:=hnd
 obtain⟨⟨t,c,h,o,p,⟨es,vs,n⟩,ps,k⟩,⟨e0,e1,e2,e3,e4,e5⟩,⟨⟩⟩:=y
 obtain⟨E1,hle1,hs1,hfr⟩:=hs.wC (wX args) E H
 have hv:=fX (H:=H) hs1 args zM (fun k hk=>by simp[hk]) (zA.mono hle1 _ _ hr)
 have hargs:=decL_ok (E:=E1) (E':=E0 E1.I) (U':=noU) rfl 0 hx hv
 refine (Do_fresh hn1 hn2 E1.I w zM hs1.lt hargs).mono ?_
 rintro e w' ⟨_,v,rfl,hf,J,hJ1,hJ2,hrep⟩
 refine⟨v,rfl,?_⟩
 have hfresh:∀k∈[base,base+1,base+2],U k=false:=hfresh
 have key:∀(G:zE×Int),Rep (E0 J) noU w' (resG G) v->∃E',En.Le U (apU U [base,base+1,base+2]) E E' w w'/\HSat w (Mof E H) E' (apU U [base,base+1,base+2]) (apH H [(base,some (.nw x tEl G.1.2.2.2.2.2.1.1)),(base+1,some (.nw x tIs G.1.2.2.2.2.2.1.2.1)),(base+2,some (.nw x tPm G.1.2.2.2.2.2.2.1))]) w'/\vZ E E' H w/\Rep E' (apU U [base,base+1,base+2]) w' (.tup [.agg (siteMs G.1 base (base+1) (base+2)),.int .i64 G.2]) v:=?_
 ·exact key _ hrep
 clear hrep
 rintro⟨⟨t',c',h',o',p',⟨es',vs',n'⟩,ps',k'⟩,m⟩ hrep
 obtain⟨h1,h2⟩:=hs.still hf (I':=fun b=>E.I b\/J b) (fun _ h=>.inl h) (fun b h=>h.imp_right (hJ1 b)) (fun b hb=>hb.elim (fun h=>Nat.lt_of_lt_of_le (hs.lt b h) hf.size) (hJ2 b))
 have fb0:U base=false:=hfresh base (by simp)
 have fb1:U (base+1)=false:=hfresh (base+1) (by simp)
 have fb2:U (base+2)=false:=hfresh (base+2) (by simp)
 have hUx:U x=true:=(hs.ob x _ hbox).1
 have hltx:E.ρ x<w.heap.size:=hs.jV ⟨_,hbox,trivial⟩
 replace hrep:Rep (E0 J) noU w' (.tup [.agg (fR t' c' h' o' p' es' vs' n' ps' k'),.int .i64 m]) v:=hrep
 unfold Rep at hrep
 obtain⟨us,rfl,hl⟩:=hrep
 unfold zA at hl
 obtain⟨v0,r,rfl,q0,hl⟩:=hl
 unfold zA at hl
 obtain⟨v1,r,rfl,q1,hl⟩:=hl
 unfold zA at hl
 subst hl
 unfold Rep at q0
 obtain⟨xs,rfl,q0⟩:=q0
 obtain⟨z0,z1,z2,rfl,d0,d1,d2⟩:=siteD_vals q0
 let E2:En:=⟨E.ρ,fun j=>bif Nat.beq j base then z0 else bif Nat.beq j (base+1) then z1 else bif Nat.beq j (base+2) then z2 else E.sv j,fun b=>E.I b\/J b,E.rc⟩
 have nb:∀j k:Nat,j≠k->Nat.beq j k=false:=fun j k hne=>by
  cases hb:Nat.beq j k with
  |false=>rfl
  |true=>exact absurd (nbT hb) hne
 have sv0:E2.sv base=z0:=by show (bif Nat.beq base base then z0 else _)=_;rw[Nat.beq_refl];rfl
 have sv1:E2.sv (base+1)=z1:=by
  show (bif Nat.beq (base+1) base then z0 else bif Nat.beq (base+1) (base+1) then z1 else _)=_
  rw[nb _ _ (by omega),Nat.beq_refl];rfl
 have sv2:E2.sv (base+2)=z2:=by
  show (bif Nat.beq (base+2) base then z0 else bif Nat.beq (base+2) (base+1) then z1 else bif Nat.beq (base+2) (base+2) then z2 else _)=_
  rw[nb _ _ (by omega),nb _ _ (by omega),Nat.beq_refl];rfl
 have sve:∀j,U j=true->E2.sv j=E.sv j:=fun j hj=>by
  have n0:j≠base:=fun e=>by rw[e,fb0] at hj;cases hj
  have n1:j≠base+1:=fun e=>by rw[e,fb1] at hj;cases hj
  have n2:j≠base+2:=fun e=>by rw[e,fb2] at hj;cases hj
  show (bif Nat.beq j base then z0 else bif Nat.beq j (base+1) then z1 else bif Nat.beq j (base+2) then z2 else E.sv j)=_
  rw[nb _ _ n0,nb _ _ n1,nb _ _ n2];rfl
 let U2:=apU U [base,base+1,base+2]
 have hU2:∀j,U j=true->U2 j=true:=fun j hj=>by show (U j||_)=true;rw[hj];rfl
 have hm0:U2 base=true:=by show (U base||[base,base+1,base+2].any (Nat.beq base))=true;simp
 have hm1:U2 (base+1)=true:=by show (U (base+1)||[base,base+1,base+2].any (Nat.beq (base+1)))=true;simp
 have hm2:U2 (base+2)=true:=by show (U (base+2)||[base,base+1,base+2].any (Nat.beq (base+2)))=true;simp
 have hle2:En.Le U U2 { E with I:=fun b=>E.I b\/J b } E2 w' w':=⟨hU2,fun _ _=>rfl,sve,fun _ h=>h,fun _ _=>rfl,fun _ _=>rfl⟩
 let H2:Hp:=apH H [(base,some (.nw x tEl es')),(base+1,some (.nw x tIs vs')),(base+2,some (.nw x tPm ps'))]
 have hcs:∀j oj,H2 j=some oj->(j=base/\oj = .nw x tEl es')\/(j=base+1/\oj = .nw x tIs vs')\/(j=base+2/\oj = .nw x tPm ps')\/H j=some oj:=by
  intro j oj hj
  replace hj:(bif Nat.beq j base then some (Ob.nw x tEl es') else bif Nat.beq j (base+1) then some (Ob.nw x tIs vs') else bif Nat.beq j (base+2) then some (Ob.nw x tPm ps') else H j)=some oj:=hj
  cases hb0:Nat.beq j base with
  |true=>rw[hb0] at hj;cases hj;exact .inl ⟨nbT hb0,rfl⟩
  |false=>
   rw[hb0] at hj
   cases hb1:Nat.beq j (base+1) with
   |true=>rw[hb1] at hj;cases hj;exact .inr (.inl ⟨nbT hb1,rfl⟩)
   |false=>
    rw[hb1] at hj
    cases hb2:Nat.beq j (base+2) with
    |true=>rw[hb2] at hj;cases hj;exact .inr (.inr (.inl ⟨nbT hb2,rfl⟩))
    |false=>rw[hb2] at hj;exact .inr (.inr (.inr hj))
 have hlv:∀j,jF E2 H2 j->jF { E with I:=fun b=>E.I b\/J b } H j:=by
  rintro j ⟨oj,hj,lj⟩
  rcases hcs j oj hj with⟨_,rfl⟩ |⟨_,rfl⟩ |⟨_,rfl⟩ |hj
  ·exact lj.elim
  ·exact lj.elim
  ·exact lj.elim
  ·exact⟨oj,hj,Ob.xI (E:={ E with I:=fun b=>E.I b\/J b }) (E':=E2) (sve j (hs.ob j oj hj).1) lj⟩
 have hnx:∀b,J b->E2.ρ x<=b:=fun b hb=>Nat.le_trans (Nat.le_of_lt hltx) (hJ1 b hb)
 refine⟨E2,h1.trans hle2,⟨fun j oj hj=>?_,fun i j hi hj he=>h2.inj i j (hlv i hi) (hlv j hj) he,fun j hj=>h2.imm j (hlv j hj),h2.lt,fun j hj=>h2.mine j (hlv j hj),h2.frame⟩,fun b hb=>hb.imp_right fun h=>.inr (hJ1 b h),?_⟩
 ·rcases hcs j oj hj with⟨rfl,rfl⟩ |⟨rfl,rfl⟩ |⟨rfl,rfl⟩ |hj
  ·exact⟨hm0,nw_of (hU2 x hUx) (fun b hb=>.inr hb) hnx sv0 d0⟩
  ·exact⟨hm1,nw_of (hU2 x hUx) (fun b hb=>.inr hb) hnx sv1 d1⟩
  ·exact⟨hm2,nw_of (hU2 x hUx) (fun b hb=>.inr hb) hnx sv2 d2⟩
  ·obtain⟨g1,g2⟩:=h2.ob j oj hj
   exact⟨hU2 j g1,g2.mono hle2 g1 fun _=>rfl⟩
 ·show Rep E2 U2 w' (.tup [.agg (siteM t' c' h' o' p' n' k' base (base+1) (base+2)),.int .i64 m]) _
  have ri:∀(n:Int),Rep E2 U2 w' (.int .i64 n) (.int .i64 n):=fun n=>by unfold Rep;rfl
  have ow:∀(j:Nat)(z:Value),U2 j=true->E2.sv j=z->(∃a n c,z = .slice a n c)->Rep E2 U2 w' (.own j) z:=fun j z hu hz hsl=>by
   unfold Rep
   exact⟨hu,hz.symm,by first |exact hsl |(rw[hz];exact hsl)⟩
  unfold Rep
  refine⟨_,rfl,zA.cons ?_ (zA.cons (by unfold Rep at q1 ⊢;exact q1) zA.nil)⟩
  unfold Rep
  refine⟨_,rfl,?_⟩
  exact zA.cons (ri _) (zA.cons (ri _) (zA.cons (ri _) (zA.cons (ri _) (zA.cons (ri _) (zA.cons (ow _ _ hm0 sv0 (yP d0)) (zA.cons (ow _ _ hm1 sv1 (yP d1)) (zA.cons (ri _) (zA.cons (ow _ _ hm2 sv2 (yP d2)) (zA.cons (ri _) zA.nil)))))))))
def c_DoN(x:Nat):GC P:={ f:=16,con:=doNCon x,ent:=by kernel_rfl,ok:=doN_ok x }
end
end Go.MB
