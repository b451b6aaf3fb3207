/- The function do: the state after the copy, with what is new alone. -/
import Derived.Test.YtfhomgggbhjglaaGreatMhA
namespace Go.MB
open Go Go.Sx Go.Proofs
set_option linter.unusedVariables false
set_option linter.unusedSimpArgs false
noncomputable section
theorem csC_cases{f:FuncId}{t c h o p:Int}{es:List E4}{vs:List (List Int)}{n:Int}{ps:List Pm}{k:Int}{e0 e1 e2 e3 e4 e5:Int}{j:Nat}{oj:Ob}(hj:(csC f t c h o p es vs n ps k e0 e1 e2 e3 e4 e5).heap j=some oj) :
  (j=4086/\oj = .box (entD e0 e1 e2 e3 e4 e5))\/(j=5086/\oj = .box xS)\/(j=701/\oj = .row 47 tEl es)\/(j=702/\oj = .row 49 tPm ps):=by
 have hm:=xG hj
 simp only[List.mem_cons,List.not_mem_nil,or_false,Prod.mk.injEq,Option.some.injEq] at hm
 exact hm
set_option maxRecDepth 100000 in
theorem do_csC{f:FuncId}{t c h o p:Int}{es:List E4}{vs:List (List Int)}{n:Int}{ps:List Pm}{k:Int}{e0 e1 e2 e3 e4 e5:Int}{B:Bs}{E:En}{S:St}{a:Act}{w3:World}(hs:SatE B E S a w3) (hn:B.n=86)
  (t2:S.tmps 2 = .ptr 3086 0) (t3:S.tmps 3 = .ptr 4086 0) (t4:S.tmps 4 = .ptr 5086 0) (t6:S.tmps 6 = .fn f []) (b3:S.heap 4086=some (.box (entD e0 e1 e2 e3 e4 e5))) (b4:S.heap 5086=some (.box xS))
  {w4:World}{v:Value}(hf:Frm w3 (fun _=>False) w4) {Ec:En}{Uc:Nat->Bool}{Hc:Hp}(hc:HSat w3 (fun _=>False) Ec Uc Hc w4) (h1:Hc 7041=some (.row 49 tPm ps)) (h2:Hc 12041=some (.row 47 tEl es))
  (hN:∀b,Ec.I b->w3.heap.size<=b) (hr:Rep Ec Uc w4 (.agg (siteCp t c h o p n k es vs ps)) v) :
  ∃EC:En,EC.I=Ec.I/\EC.ρ 3086=E.ρ 3086/\EC.ρ 4086=E.ρ 4086/\EC.ρ 5086=E.ρ 5086/\(∀b,Mof EC (csC f t c h o p es vs n ps k e0 e1 e2 e3 e4 e5).heap b->b=E.ρ 4086\/b=E.ρ 5086\/w3.heap.size<=b) /\
   (∀b,Mof EC (csC f t c h o p es vs n ps k e0 e1 e2 e3 e4 e5).heap b->w4.heap[b]? ≠ some (.deferred (some []))) /\
   SatE ⟨w4,Mof EC (csC f t c h o p es vs n ps k e0 e1 e2 e3 e4 e5).heap,EC,apU noU [3086,4086,5086,701,702],86,a.defers⟩ EC (csC f t c h o p es vs n ps k e0 e1 e2 e3 e4 e5) (a.put (some 43) v) w4:=by
 unfold Rep at hr
 obtain⟨us,rfl,hr⟩:=hr
 have k0:=hr
 unfold zA at hr
 obtain⟨v0,r,rfl,g0,hr⟩:=hr
 unfold zA at hr
 obtain⟨v1,r,rfl,g1,hr⟩:=hr
 unfold zA at hr
 obtain⟨v2,r,rfl,g2,hr⟩:=hr
 unfold zA at hr
 obtain⟨v3,r,rfl,g3,hr⟩:=hr
 unfold zA at hr
 obtain⟨v4,r,rfl,g4,hr⟩:=hr
 unfold zA at hr
 obtain⟨v5,r,rfl,g5,hr⟩:=hr
 unfold zA at hr
 obtain⟨v6,r,rfl,g6,hr⟩:=hr
 unfold zA at hr
 obtain⟨v7,r,rfl,g7,hr⟩:=hr
 unfold zA at hr
 obtain⟨v8,r,rfl,g8,hr⟩:=hr
 unfold zA at hr
 obtain⟨v9,r,rfl,g9,hr⟩:=hr
 unfold zA at hr
 subst hr
 obtain⟨_,xs,ty3,q3,p3⟩:=hs.heap.ob 4086 _ b3
 obtain⟨_,ys,ty4,q4,p4⟩:=hs.heap.ob 5086 _ b4
 have l3:jF E S.heap 4086:=⟨_,b3,trivial⟩
 have l4:jF E S.heap 5086:=⟨_,b4,trivial⟩
 have lt3:=hs.heap.jV l3
 have lt4:=hs.heap.jV l4
 have hk:∀b,b<w3.heap.size->w4.heap[b]? = w3.heap[b]?:=fun b hb=>hf.block b hb fun x=>x
 have o1:=(hc.ob 7041 _ h1).2
 have o2:=(hc.ob 12041 _ h2).2
 let EC:En:=⟨fun j=>bif Nat.beq j 701 then Ec.ρ 12041 else bif Nat.beq j 702 then Ec.ρ 7041 else E.ρ j,fun j=>bif Nat.beq j 701 then Ec.sv 12041 else Ec.sv 7041,Ec.I,E.rc⟩
 let UC:=apU noU [3086,4086,5086,701,702]
 have hcell:∀(kk:Nat)(oo:Ob),(csC f t c h o p es vs n ps k e0 e1 e2 e3 e4 e5).heap kk=some oo->oo.live EC kk->(kk=4086\/kk=5086)/\jF E S.heap kk/\EC.ρ kk=E.ρ kk\/(kk=701/\jF Ec Hc 12041/\EC.ρ kk=Ec.ρ 12041)\/(kk=702/\jF Ec Hc 7041/\EC.ρ kk=Ec.ρ 7041):=by
  intro kk oo hk' lk
  rcases csC_cases hk' with⟨rfl,rfl⟩ |⟨rfl,rfl⟩ |⟨rfl,rfl⟩ |⟨rfl,rfl⟩
  ·exact .inl ⟨.inl rfl,l3,rfl⟩
  ·exact .inl ⟨.inr rfl,l4,rfl⟩
  ·exact .inr (.inl ⟨rfl,⟨_,h2,lk⟩,rfl⟩)
  ·exact .inr (.inr ⟨rfl,⟨_,h1,lk⟩,rfl⟩)
 have newc:∀j,jF Ec Hc j->w3.heap.size<=Ec.ρ j:=fun j hj=>(hc.mine j hj).elim (fun h=>h.elim) id
 have hmof:∀b,Mof EC (csC f t c h o p es vs n ps k e0 e1 e2 e3 e4 e5).heap b->b=E.ρ 4086\/b=E.ρ 5086\/w3.heap.size<=b:=by
  rintro b ⟨j,⟨oj,hj,lj⟩,rfl⟩
  rcases hcell j oj hj lj with⟨hj',_,e⟩ |⟨_,hl,e⟩ |⟨_,hl,e⟩
  ·rcases hj' with rfl |rfl
   ·exact .inl e
   ·exact .inr (.inl e)
  ·exact .inr (.inr (by rw[e];exact newc _ hl))
  ·exact .inr (.inr (by rw[e];exact newc _ hl))
 have d:=hs.tmps 2 (by rw[hn];decide)
 have g:=hs.tmps 3 (by rw[hn];decide)
 have l:=hs.tmps 4 (by rw[hn];decide)
 have m:=hs.tmps 6 (by rw[hn];decide)
 rw[t2] at d
 rw[t3] at g
 rw[t4] at l
 rw[t6] at m
 unfold Rep at d g l m
 have hn43:(43:Nat)<a.tmps.size:=by rw[hs.size,hn];decide
 have pg:∀(u:Value)(j:Nat),j<86->j≠43->(a.put (some 43) u).tmps.getD j undef=a.tmps.getD j undef:=fun u j hj hne=>by
  rw[put_get _ _ _ _ (by rw[hs.size,hn];exact hj),if_neg (fun e=>hne (Option.some.inj e).symm)]
 have hsat:SatE ⟨w4,Mof EC (csC f t c h o p es vs n ps k e0 e1 e2 e3 e4 e5).heap,EC,UC,86,a.defers⟩ EC (csC f t c h o p es vs n ps k e0 e1 e2 e3 e4 e5) (a.put (some 43) (.agg (List.toArray [v0,v1,v2,v3,v4,v5,v6,v7,v8,v9]))) w4:=by
  refine wA (by rw[put_size,hs.size,hn]) (by rw[kM]) ?_ ?_ ?_ ?_ hc.lt
  ·intro q hq
   simp only[List.mem_cons,List.not_mem_nil,or_false] at hq
   rcases hq with rfl |rfl |rfl |rfl |rfl
   ·rw[pg _ 2 (by decide) (by decide)];unfold Rep;exact⟨rfl,d.2⟩
   ·rw[pg _ 3 (by decide) (by decide)];unfold Rep;exact⟨rfl,g.2⟩
   ·rw[pg _ 4 (by decide) (by decide)];unfold Rep;exact⟨rfl,l.2⟩
   ·rw[pg _ 6 (by decide) (by decide)];unfold Rep
    obtain⟨ws,hw1,hw2⟩:=m
    exact⟨ws,hw1,by unfold zA at hw2 ⊢;exact hw2⟩
   ·rw[put_get _ _ _ _ hn43,if_pos rfl]
    unfold Rep
    refine⟨_,rfl,?_⟩
    have fi:∀{n:Int}{v:Value},Rep Ec Uc w4 (.int .i64 n) v->Rep EC UC w4 (.int .i64 n) v:=fun h=>by unfold Rep at h ⊢;exact h
    refine zA.cons (fi g0) (zA.cons (fi g1) (zA.cons (fi g2) (zA.cons (fi g3) (zA.cons (fi g4) (zA.cons ?_ (zA.cons ?_ (zA.cons (fi g7) (zA.cons ?_ (zA.cons (fi g9) zA.nil)))))))))
    ·unfold Rep at g5 ⊢;exact⟨rfl,g5.2⟩
    ·unfold Rep at g6 ⊢;exact g6
    ·unfold Rep at g8 ⊢;exact⟨rfl,g8.2⟩
  ·intro kk oo hk'
   simp only[List.mem_cons,List.not_mem_nil,or_false,Prod.mk.injEq,Option.some.injEq] at hk'
   rcases hk' with⟨rfl,rfl⟩ |⟨rfl,rfl⟩ |⟨rfl,rfl⟩ |⟨rfl,rfl⟩
   ·exact⟨by decide,xs,ty3,(hk _ lt3).trans q3,wU _ _ (by rfl) p3⟩
   ·exact⟨by decide,ys,ty4,(hk _ lt4).trans q4,wU _ _ (by rfl) p4⟩
   ·exact⟨by decide,o2⟩
   ·exact⟨by decide,o1⟩
  ·intro j oj kk ok hj hk' lj lk he
   have hj2:(csC f t c h o p es vs n ps k e0 e1 e2 e3 e4 e5).heap j=some oj:=by
    simp only[List.mem_cons,List.not_mem_nil,or_false,Prod.mk.injEq,Option.some.injEq] at hj
    rcases hj with⟨rfl,rfl⟩ |⟨rfl,rfl⟩ |⟨rfl,rfl⟩ |⟨rfl,rfl⟩<;>rfl
   have hk2:(csC f t c h o p es vs n ps k e0 e1 e2 e3 e4 e5).heap kk=some ok:=by
    simp only[List.mem_cons,List.not_mem_nil,or_false,Prod.mk.injEq,Option.some.injEq] at hk'
    rcases hk' with⟨rfl,rfl⟩ |⟨rfl,rfl⟩ |⟨rfl,rfl⟩ |⟨rfl,rfl⟩<;>rfl
   rcases hcell j oj hj2 lj with⟨_,hl,e⟩ |⟨rfl,hl,e⟩ |⟨rfl,hl,e⟩<;>rcases hcell kk ok hk2 lk with⟨_,hl',e'⟩ |⟨rfl,hl',e'⟩ |⟨rfl,hl',e'⟩
   ·exact hs.heap.inj j kk hl hl' (by rw[<- e,<- e'];exact he)
   ·exact absurd (hs.heap.jV hl) (Nat.not_lt.2 (by rw[<- e,he,e'];exact newc _ hl'))
   ·exact absurd (hs.heap.jV hl) (Nat.not_lt.2 (by rw[<- e,he,e'];exact newc _ hl'))
   ·exact absurd (hs.heap.jV hl') (Nat.not_lt.2 (by rw[<- e',<- he,e];exact newc _ hl))
   ·rfl
   ·exact absurd (hc.inj _ _ hl hl' (by rw[<- e,<- e'];exact he)) (by decide)
   ·exact absurd (hs.heap.jV hl') (Nat.not_lt.2 (by rw[<- e',<- he,e];exact newc _ hl))
   ·exact absurd (hc.inj _ _ hl hl' (by rw[<- e,<- e'];exact he)) (by decide)
   ·rfl
  ·intro kk oo hk' lk
   have hk2:(csC f t c h o p es vs n ps k e0 e1 e2 e3 e4 e5).heap kk=some oo:=by
    simp only[List.mem_cons,List.not_mem_nil,or_false,Prod.mk.injEq,Option.some.injEq] at hk'
    rcases hk' with⟨rfl,rfl⟩ |⟨rfl,rfl⟩ |⟨rfl,rfl⟩ |⟨rfl,rfl⟩<;>rfl
   refine⟨?_,kk,⟨oo,hk2,lk⟩,rfl⟩
   rcases hcell kk oo hk2 lk with⟨_,hl,e⟩ |⟨rfl,hl,e⟩ |⟨rfl,hl,e⟩
   ·rw[e]
    exact fun hi=>absurd (hs.heap.jV hl) (Nat.not_lt.2 (hN _ hi))
   ·rw[e];exact hc.imm _ hl
   ·rw[e];exact hc.imm _ hl
 refine⟨EC,rfl,rfl,rfl,rfl,hmof,?_,hsat⟩
 rintro b ⟨j,⟨oj,hj,lj⟩,rfl⟩
 exact (hsat.heap.ob j oj hj).2.kind lj
set_option maxRecDepth 100000 in
theorem do_partC{f:FuncId}{t c h o p:Int}{es:List E4}{vs:List (List Int)}{n:Int}{ps:List Pm}{k:Int}{e0 e1 e2 e3 e4 e5:Int}{B:Bs}{Q:Exit->Act->World->Prop}{a:Act}{w:World}
  (hs:Sat B (csC f t c h o p es vs n ps k e0 e1 e2 e3 e4 e5) a w) (hn:B.n=86) (hact:ActC f (t,c,h,o,p,(es,vs,n),ps,k) (e0,e1,e2,e3,e4,e5))
  (bad:∀S a' w' q m,Sat B S a' w'->jJ (t,c,h,o,p,(es,vs,n),ps,k) (e0,e1,e2,e3,e4,e5)≠0->[SV.agg xS,SV.int q m]=[.agg xS,.int .i64 (jJ (t,c,h,o,p,(es,vs,n),ps,k) (e0,e1,e2,e3,e4,e5))]->zAd P 86 S Tryz.f50.results.toList=some [.agg xS,.int q m]->Q .ret a' w')
  (good:∀x y S a' w',Sat B S a' w'->jJ (t,c,h,o,p,(es,vs,n),ps,k) (e0,e1,e2,e3,e4,e5)=0->(Exit.normal,[2,3,4,8,54].map S.tmps,[4086,5086,9086,x,y].map S.heap,[4086,5086,9086,x,y].map S.used)=obsDC x y (fL (zK (t,c,h,o,p,(es,vs,n),ps,k) (e0,e1,e2,e3,e4,e5)) e0) (e0,e1,e2,e3,e4,e5) ->
   (vJ blk1).wpIn (FR none) 0 P (Exit.inBlock 1 (Exit.then (tDo22.wpIn (FR none) 0 P Q) Q)) a' w') :
  wpOpsIn (FR none) 0 P (vI vV) (Exit.then ((yZ 5 bDo).wpIn (FR none) 0 P Q) Q) [2,3] a w:=by
 obtain⟨d,g,l,b,A,s⟩:=B
 replace hn:A=86:=hn
 subst hn
 obtain⟨cx,u,v,hT⟩:=hact
 dsimp only at hT
 obtain⟨r,S',K',hL,hK',_,hk⟩:=yY _ _ _ [] (jP _ _) hT
 have er:([2,3]:List Nat)=List.range' 2 ((vL vV).drop 2).length++[]:=by kernel_rfl
 have ex:yZ 5 bDo = .seq sDo11 (.seq rDo14 (.seq (.block 1 blk1) tDo22)):=by kernel_rfl
 have eb:blk1 = .seq (yR blk1) (vJ blk1):=by kernel_rfl
 rw[er]
 refine kS hL 2 (fun j o' ho' =>?_) a w hs fun a5 w5 hs5=>?_
 ·have e0:(vI vV).toList=(vL vV):=by kernel_rfl
  rw[<- Array.getElem?_toList,e0]
  rw[List.getElem?_drop] at ho'
  exact ho'
 show (yZ 5 bDo).wpIn (FR none) 0 P Q a5 w5
 rw[ex]
 refine wpIn_seq (jA hm (r0:=none) (u0:=b) (cx:=cx) (lp:=fun _=>none) (ys:=[]) (B:=⟨d,g,l,b,86,s⟩) (Q:=QC u v (t,c,h,o,p,(es,vs,n),ps,k) (e0,e1,e2,e3,e4,e5)) (fun k hk=>hk) (fun h hh=>by cases hh) sDo11 0 S' K' (kDC1 [4086,5086,9086,u,v]) _ (vQ _ _ _ _) hK' hk ?_ a5 w5 hs5)
 intro e z K6 a6 w6 hK6 hs6 hk6
 cases e with
 |ret=>
  obtain⟨cs,q,m,hres,hq⟩:=kO (P:=P) (n:=86) (fn:=Tryz.f50) (S:=z) (k:=fun r=>Tree.leaf (Exit.ret,r,([]:List (Option Ob)),([]:List Bool))) hk6
  show Q .ret a6 w6
  rcases (show _\/_ from hq) with⟨h1,h2⟩ |⟨_,h2⟩
  ·injection h2 with _ h2
   injection h2 with h2 _
   have h3:=h2
   injection h2 with h2 _
   injection h2 with h2
   subst h2
   exact bad z a6 w6 q m hs6 h1 h3 hres
  ·have:=congrArg (·.1) h2
   cases this
 |normal=>
  show (Code.seq rDo14 (.seq (.block 1 blk1) tDo22)).wpIn (FR none) 0 P Q a6 w6
  refine wpIn_seq (jA hm (r0:=none) (u0:=b) (cx:=[]) (lp:=fun _=>none) (ys:=[]) (B:=⟨d,g,l,b,86,s⟩) (Q:=QC u v (t,c,h,o,p,(es,vs,n),ps,k) (e0,e1,e2,e3,e4,e5)) (fun k hk=>hk) (fun h hh=>by cases hh) rDo14 0 z K6 (kDC2 [4086,5086,9086,u,v]) _ (vQ _ _ _ _) hK6 hk6 ?_ a6 w6 hs6)
  intro e C K7 a7 w7 hK7 hs7 hk7
  cases e with
  |normal=>
   show (Code.seq (.block 1 blk1) tDo22).wpIn (FR none) 0 P Q a7 w7
   refine wpIn_seq (wpIn_block ?_)
   rw[eb]
   refine wpIn_seq (jA hm (r0:=none) (u0:=b) (cx:=[c_keepsX.gc]) (lp:=fun _=>none) (ys:=[]) (B:=⟨d,g,l,b,86,s⟩) (Q:=QC u v (t,c,h,o,p,(es,vs,n),ps,k) (e0,e1,e2,e3,e4,e5)) (fun k hk=>hk) (fun h hh=>by cases hh) (yR blk1) 1 C K7 (kDC3 [4086,5086,9086,u,v]) _ (vQ _ _ _ _) hK7 hk7 ?_ a7 w7 hs7)
   intro e D K8 a8 w8 hK8 hs8 hk8
   cases e with
   |normal=>
    have hq:=yV hk8
    rcases (show _\/_ from hq) with⟨_,h2⟩ |⟨h1,h2⟩
    ·have:=congrArg (·.1) h2
     cases this
    ·exact good u v D a8 w8 hs8 h1 h2
   |_=>exact hk8.elim
  |_=>exact hk7.elim
 |_=>exact hk6.elim
theorem csD_cases{bb:Bool}{t c h o p:Int}{es:List E4}{vs:List (List Int)}{n:Int}{ps:List Pm}{k:Int}{t' c' h' o' p' : Int}{es' : List E4}{vs' : List (List Int)}{n' : Int}{ps' : List Pm}{k' : Int}{e0 e1 e2 e3 e4 e5:Int}{E:En}{j:Nat}{oj:Ob}
  (hj:(csD bb t c h o p es vs n ps k t' c' h' o' p' es' vs' n' ps' k' e0 e1 e2 e3 e4 e5).heap j=some oj) (hl:oj.live E j):j=3086\/j=4086\/j=5086\/j=9086:=by
 have hm:=xG hj
 simp only[List.mem_cons,List.not_mem_nil,or_false,Prod.mk.injEq,Option.some.injEq] at hm
 rcases hm with⟨rfl,rfl⟩ |⟨rfl,rfl⟩ |⟨rfl,rfl⟩ |⟨rfl,rfl⟩ |⟨rfl,rfl⟩ |⟨rfl,rfl⟩ |⟨rfl,rfl⟩
 ·exact .inl rfl
 ·exact .inr (.inl rfl)
 ·exact .inr (.inr (.inl rfl))
 ·exact .inr (.inr (.inr rfl))
 all_goals exact hl.elim
theorem drep_of{I:Nat->Prop}{U:Nat->Bool}{w:World}{ty:Ty}{l:List ty.den}{v:Value}(h:Rep (E0 I) U w (.sl ty l) v):zG I w (.sl ty) l [v]:=by
 unfold Rep at h
 exact h
theorem yP{I:Nat->Prop}{w:World}{ty:Ty}{l:List ty.den}{v:Value}(h:zG I w (.sl ty) l [v]):∃a n c,v = .slice a n c:=by
 obtain⟨u,hu,p,cap,e,_⟩:=h
 cases hu
 exact⟨_,_,_,e⟩
theorem fA{I:Nat->Prop}{E:En}{U:Nat->Bool}{w:World}{j:Nat}{ty:Ty}{l:List ty.den}{v:Value}(hI:∀b,I b->E.I b) (hv:E.sv j=v) (h:zG I w (.sl ty) l [v]):pJ E U w j (.frz ty l):=by
 obtain⟨u,hu,hsl⟩:=zG.mono (I':=E.I) hI (fun _ _=>rfl) _ _ _ h
 cases hu
 show wS _ _ _ _ _ _
 rw[hv]
 exact hsl
set_option maxRecDepth 100000 in
theorem do_csD{bb:Bool}{x y:Nat}{t c h o p:Int}{es:List E4}{vs:List (List Int)}{n:Int}{ps:List Pm}{k:Int}{t' c' h' o' p' : Int}{es' : List E4}{vs' : List (List Int)}{n' : Int}{ps' : List Pm}{k' : Int}{e0 e1 e2 e3 e4 e5:Int}
  {B3:Bs}{E3:En}{f:St}{a3:Act}{w3:World}(hs3:SatE B3 E3 f a3 w3) (b2:f.heap 3086=some (.box (fR t c h o p es vs n ps k))) (b3:f.heap 4086=some (.box (entD e0 e1 e2 e3 e4 e5))) (b4:f.heap 5086=some (.box xS))
  {w4:World}(hf:Frm w3 (fun _=>False) w4) {EC:En}(hCI:∀b,EC.I b->w3.heap.size<=b) (r2:EC.ρ 3086=E3.ρ 3086) (r3:EC.ρ 4086=E3.ρ 4086) (r4:EC.ρ 5086=E3.ρ 5086) {M:Nat->Prop}(hM:∀b,M b->b=E3.ρ 4086\/b=E3.ρ 5086\/w3.heap.size<=b) (hMk:∀b,M b->w4.heap[b]? ≠ some (.deferred (some [])))
  {D:List Deferred}{E5:En}{d:St}{a5:Act}{w5:World}(hs5:SatE ⟨w4,M,EC,apU noU [3086,4086,5086,701,702],86,D⟩ E5 d a5 w5)
  (hq:(Exit.normal,[2,3,4,8,54].map d.tmps,[4086,5086,9086,x,y].map d.heap,[4086,5086,9086,x,y].map d.used)=(Exit.normal,[SV.ptr 3086 0,.ptr 4086 0,.ptr 5086 0,.ptr 9086 0,.bool bb],[some (Ob.box (entD e0 e1 e2 e3 e4 e5)),some (.box xS),some (.box (siteR t' c' h' o' p' vs' n' k' x y)),some (.row 47 tEl es'),some (.row 49 tPm ps')],List.replicate 5 true))
  {N0:Nat}(hge:∀j,jF E3 f.heap j->N0<=E3.ρ j) (hN0:N0<=w3.heap.size) (hmk:zL N0 w3 E3.I D) :
  ∃ (ED:En) (J:Nat->Prop),(∀b,J b->N0<=b)/\(∀b,J b->ED.I b)/\zL N0 w5 ED.I a5.defers/\(∀b,Mof ED (csD bb t c h o p es vs n ps k t' c' h' o' p' es' vs' n' ps' k' e0 e1 e2 e3 e4 e5).heap b->N0<=b/\w5.heap[b]? ≠ some (.deferred (some []))) /\
   zG J w5 (.sl tEl) es' [ED.sv 701]/\zG J w5 (.sl tIs) vs' [ED.sv 702]/\zG J w5 (.sl tPm) ps' [ED.sv 703] /\
   SatE ⟨w5,Mof ED (csD bb t c h o p es vs n ps k t' c' h' o' p' es' vs' n' ps' k' e0 e1 e2 e3 e4 e5).heap,ED,apU noU [3086,4086,5086,9086,701,702,703],86,a5.defers⟩ ED (csD bb t c h o p es vs n ps k t' c' h' o' p' es' vs' n' ps' k' e0 e1 e2 e3 e4 e5) a5 w5:=by
 injection hq with _ hq
 injection hq with ht hq
 injection hq with hh _
 simp only[List.map_cons,List.map_nil,List.cons.injEq,and_true] at ht hh
 obtain⟨u2,u3,u4,u8,u54⟩:=ht
 obtain⟨c3,c4,c9,cx,cy⟩:=hh
 have l2:jF E3 f.heap 3086:=⟨_,b2,trivial⟩
 have l3:jF E3 f.heap 4086:=⟨_,b3,trivial⟩
 have l4:jF E3 f.heap 5086:=⟨_,b4,trivial⟩
 have m3:jF E5 d.heap 4086:=⟨_,c3,trivial⟩
 have m4:jF E5 d.heap 5086:=⟨_,c4,trivial⟩
 have m9:jF E5 d.heap 9086:=⟨_,c9,trivial⟩
 have U5:∀j,j∈[3086,4086,5086,701,702]->apU noU [3086,4086,5086,701,702] j=true:=fun j hj=>(yU (ts:=[]) (hs:=[])).2 hj
 have s2:E5.ρ 3086=E3.ρ 3086:=(hs5.le.rho _ (U5 3086 (by decide))).trans r2
 have s3:E5.ρ 4086=E3.ρ 4086:=(hs5.le.rho _ (U5 4086 (by decide))).trans r3
 have s4:E5.ρ 5086=E3.ρ 5086:=(hs5.le.rho _ (U5 5086 (by decide))).trans r4
 have lt2:=hs3.heap.jV l2
 have lt3:=hs3.heap.jV l3
 have lt4:=hs3.heap.jV l4
 have new5:∀j,jF E5 d.heap j->j≠4086->j≠5086->w3.heap.size<=E5.ρ j:=by
  intro j hj n1 n2
  rcases hs5.heap.mine j hj with hm |hm
  ·rcases hM _ hm with e |e |e
   ·exact absurd (hs5.heap.inj j 4086 hj m3 (by rw[s3];exact e)) n1
   ·exact absurd (hs5.heap.inj j 5086 hj m4 (by rw[s4];exact e)) n2
   ·exact e
  ·exact Nat.le_trans hf.size hm
 have old:∀b,b<w3.heap.size->b≠E3.ρ 4086->b≠E3.ρ 5086->w5.heap[b]? = w3.heap[b]?:=fun b hb n1 n2=>(hs5.heap.frame.block b (Nat.lt_of_lt_of_le hb hf.size) (fun hm=>by
  rcases hM _ hm with e |e |e
  ·exact n1 e
  ·exact n2 e
  ·omega)).trans (hf.block b hb fun x=>x)
 have oldI:∀b,E3.I b->w5.heap[b]? = w3.heap[b]?:=fun b hb=>old b (hs3.heap.lt b hb) (fun e=>hs3.heap.imm _ l3 (by rw[<- e];exact hb)) (fun e=>hs3.heap.imm _ l4 (by rw[<- e];exact hb))
 have I5:∀b,E5.I b->w3.heap.size<=b:=by
  intro b hb
  rcases hs5.fresh b hb with h |h |h
  ·exact hCI b h
  ·rcases hM b h with e |e |e
   ·exact absurd hb (by rw[e,<- s3];exact hs5.heap.imm _ m3)
   ·exact absurd hb (by rw[e,<- s4];exact hs5.heap.imm _ m4)
   ·exact e
  ·exact Nat.le_trans hf.size h
 obtain⟨_,xs,ty2,q2,p2⟩:=hs3.heap.ob 3086 _ b2
 obtain⟨_,ys,ty3,q3,p3⟩:=hs5.heap.ob 4086 _ c3
 obtain⟨_,zs,ty4,q4,p4⟩:=hs5.heap.ob 5086 _ c4
 obtain⟨_,us,ty9,q9,p9⟩:=hs5.heap.ob 9086 _ c9
 have hr:=p9
 unfold zA at hr
 obtain⟨v0,r,rfl,g0,hr⟩:=hr
 unfold zA at hr
 obtain⟨v1,r,rfl,g1,hr⟩:=hr
 unfold zA at hr
 obtain⟨v2,r,rfl,g2,hr⟩:=hr
 unfold zA at hr
 obtain⟨v3,r,rfl,g3,hr⟩:=hr
 unfold zA at hr
 obtain⟨v4,r,rfl,g4,hr⟩:=hr
 unfold zA at hr
 obtain⟨v5,r,rfl,g5,hr⟩:=hr
 unfold zA at hr
 obtain⟨v6,r,rfl,g6,hr⟩:=hr
 unfold zA at hr
 obtain⟨v7,r,rfl,g7,hr⟩:=hr
 unfold zA at hr
 obtain⟨v8,r,rfl,g8,hr⟩:=hr
 unfold zA at hr
 obtain⟨v9,r,rfl,g9,hr⟩:=hr
 unfold zA at hr
 subst hr
 let J:Nat->Prop:=fun b=>E5.I b\/(jF E5 d.heap x/\E5.ρ x=b)\/(jF E5 d.heap y/\E5.ρ y=b)
 have nx:x≠4086/\x≠5086/\x≠9086:=by
  refine⟨?_,?_,?_⟩<;>(rintro rfl;first |(rw[c3] at cx;cases cx) |(rw[c4] at cx;cases cx) |(rw[c9] at cx;cases cx))
 have ny:y≠4086/\y≠5086/\y≠9086:=by
  refine⟨?_,?_,?_⟩<;>(rintro rfl;first |(rw[c3] at cy;cases cy) |(rw[c4] at cy;cases cy) |(rw[c9] at cy;cases cy))
 have hJN:∀b,J b->w3.heap.size<=b:=by
  rintro b (hb |⟨hl,rfl⟩ |⟨hl,rfl⟩)
  ·exact I5 b hb
  ·exact new5 x hl nx.1 nx.2.1
  ·exact new5 y hl ny.1 ny.2.1
 have hJlt:∀b,J b->b<w5.heap.size:=by
  rintro b (hb |⟨hl,rfl⟩ |⟨hl,rfl⟩)
  ·exact hs5.heap.lt b hb
  ·exact hs5.heap.jV hl
  ·exact hs5.heap.jV hl
 unfold Rep at g5 g6 g8
 have d1:zG J w5 (.sl tEl) es' [v5]:=by
  have:=row_data hs5.heap cx (by rfl) (I:=J) (fun hl=>.inr (.inl ⟨hl,rfl⟩))
  rw[<- g5.2.1] at this
  exact drep_of this
 have d3:zG J w5 (.sl tPm) ps' [v8]:=by
  have:=row_data hs5.heap cy (by rfl) (I:=J) (fun hl=>.inr (.inr ⟨hl,rfl⟩))
  rw[<- g8.2.1] at this
  exact drep_of this
 have d2:zG J w5 (.sl tIs) vs' [v6]:=zG.mono (fun b hb=>.inl hb) (fun _ _=>rfl) _ _ _ g6
 let ED:En:=⟨E5.ρ,fun j=>bif Nat.beq j 701 then v5 else bif Nat.beq j 702 then v6 else v8,fun b=>E3.I b\/J b,E5.rc⟩
 let UD:=apU noU [3086,4086,5086,9086,701,702,703]
 have g:=hs5.tmps 2 (show 2<86 by decide)
 have m:=hs5.tmps 3 (show 3<86 by decide)
 have s:=hs5.tmps 4 (show 4<86 by decide)
 have z:=hs5.tmps 8 (show 8<86 by decide)
 have x54:=hs5.tmps 54 (show 54<86 by decide)
 rw[u2] at g
 rw[u3] at m
 rw[u4] at s
 rw[u8] at z
 rw[u54] at x54
 unfold Rep at g m s z x54
 have hsat:SatE ⟨w5,Mof ED (csD bb t c h o p es vs n ps k t' c' h' o' p' es' vs' n' ps' k' e0 e1 e2 e3 e4 e5).heap,ED,UD,86,a5.defers⟩ ED (csD bb t c h o p es vs n ps k t' c' h' o' p' es' vs' n' ps' k' e0 e1 e2 e3 e4 e5) a5 w5:=by
  have back:∀{j:Nat}{oj:Ob},(j,some oj)∈[(3086,some (Ob.box (fR t c h o p es vs n ps k))),(4086,some (.box (entD e0 e1 e2 e3 e4 e5))),(5086,some (.box xS)),(9086,some (.box (siteM t' c' h' o' p' n' k' 701 702 703))),(701,some (.frz tEl es')),(702,some (.frz tIs vs')),(703,some (.frz tPm ps'))]->(csD bb t c h o p es vs n ps k t' c' h' o' p' es' vs' n' ps' k' e0 e1 e2 e3 e4 e5).heap j=some oj:=by
   intro j oj hj
   simp only[List.mem_cons,List.not_mem_nil,or_false,Prod.mk.injEq,Option.some.injEq] at hj
   rcases hj with⟨rfl,rfl⟩ |⟨rfl,rfl⟩ |⟨rfl,rfl⟩ |⟨rfl,rfl⟩ |⟨rfl,rfl⟩ |⟨rfl,rfl⟩ |⟨rfl,rfl⟩<;>rfl
  have e9:=new5 9086 m9 (by decide) (by decide)
  refine wA hs5.size rfl ?_ ?_ ?_ ?_ ?_
  ·intro q hq
   simp only[List.mem_cons,List.not_mem_nil,or_false] at hq
   rcases hq with rfl |rfl |rfl |rfl |rfl
   ·unfold Rep;exact⟨rfl,g.2⟩
   ·unfold Rep;exact⟨rfl,m.2⟩
   ·unfold Rep;exact⟨rfl,s.2⟩
   ·unfold Rep;exact⟨rfl,z.2⟩
   ·unfold Rep;exact x54
  ·intro kk oo hk'
   simp only[List.mem_cons,List.not_mem_nil,or_false,Prod.mk.injEq,Option.some.injEq] at hk'
   rcases hk' with⟨rfl,rfl⟩ |⟨rfl,rfl⟩ |⟨rfl,rfl⟩ |⟨rfl,rfl⟩ |⟨rfl,rfl⟩ |⟨rfl,rfl⟩ |⟨rfl,rfl⟩
   ·refine⟨by decide,xs,ty2,?_,?_⟩
    ·show w5.heap[E5.ρ 3086]? = _
     rw[s2,old _ lt2 (fun e=>absurd (hs3.heap.inj _ _ l2 l3 e) (by decide)) (fun e=>absurd (hs3.heap.inj _ _ l2 l4 e) (by decide))]
     exact q2
    ·have h1:=pH (E:=E3) (E':={ ED with I:=E3.I }) (U':=UD) rfl _ _ (by rfl) p2
     exact zA.mono (E:={ ED with I:=E3.I }) (E':=ED) (U:=UD) (U':=UD) ⟨fun _ h=>h,fun _ _=>rfl,fun _ _=>rfl,fun _ h=>.inl h,oldI,fun _ _=>rfl⟩ _ _ h1
   ·exact⟨by decide,ys,ty3,q3,wU _ _ (by rfl) p3⟩
   ·exact⟨by decide,zs,ty4,q4,wU _ _ (by rfl) p4⟩
   ·refine⟨by decide,[v0,v1,v2,v3,v4,v5,v6,v7,v8,v9],ty9,q9,?_⟩
    have fi:∀{n:Int}{v:Value},Rep E5 d.used w5 (.int .i64 n) v->Rep ED UD w5 (.int .i64 n) v:=fun h=>by unfold Rep at h ⊢;exact h
    refine zA.cons (fi g0) (zA.cons (fi g1) (zA.cons (fi g2) (zA.cons (fi g3) (zA.cons (fi g4) (zA.cons ?_ (zA.cons ?_ (zA.cons (fi g7) (zA.cons ?_ (zA.cons (fi g9) zA.nil)))))))))
    ·unfold Rep;exact⟨rfl,rfl,yP d1⟩
    ·unfold Rep;exact⟨rfl,rfl,yP d2⟩
    ·unfold Rep;exact⟨rfl,rfl,yP d3⟩
   ·exact⟨by decide,fA (fun b hb=>.inr hb) rfl d1⟩
   ·exact⟨by decide,fA (fun b hb=>.inr hb) rfl d2⟩
   ·exact⟨by decide,fA (fun b hb=>.inr hb) rfl d3⟩
  ·intro j oj kk ok hj hk' lj lk he
   replace he:E5.ρ j=E5.ρ kk:=he
   rcases csD_cases (E:=ED) (back hj) lj with rfl |rfl |rfl |rfl<;>rcases csD_cases (E:=ED) (back hk') lk with rfl |rfl |rfl |rfl
   ·rfl
   ·rw[s2,s3] at he;exact absurd (hs3.heap.inj _ _ l2 l3 he) (by decide)
   ·rw[s2,s4] at he;exact absurd (hs3.heap.inj _ _ l2 l4 he) (by decide)
   ·rw[s2] at he;omega
   ·rw[s2,s3] at he;exact absurd (hs3.heap.inj _ _ l2 l3 he.symm) (by decide)
   ·rfl
   ·exact hs5.heap.inj _ _ m3 m4 he
   ·exact hs5.heap.inj _ _ m3 m9 he
   ·rw[s2,s4] at he;exact absurd (hs3.heap.inj _ _ l2 l4 he.symm) (by decide)
   ·exact hs5.heap.inj _ _ m4 m3 he
   ·rfl
   ·exact hs5.heap.inj _ _ m4 m9 he
   ·rw[s2] at he;omega
   ·exact hs5.heap.inj _ _ m9 m3 he
   ·exact hs5.heap.inj _ _ m9 m4 he
   ·rfl
  ·intro kk oo hk' lk
   refine⟨?_,kk,⟨oo,back hk',lk⟩,rfl⟩
   show ¬ (E3.I (E5.ρ kk)\/E5.I (E5.ρ kk)\/(jF E5 d.heap x/\E5.ρ x=E5.ρ kk)\/(jF E5 d.heap y/\E5.ρ y=E5.ρ kk))
   rcases csD_cases (E:=ED) (back hk') lk with rfl |rfl |rfl |rfl
   ·rw[s2]
    rintro (hi |hi |⟨hl,e⟩ |⟨hl,e⟩)
    ·exact hs3.heap.imm _ l2 hi
    ·have:=I5 _ hi;omega
    ·have:=new5 x hl nx.1 nx.2.1;omega
    ·have:=new5 y hl ny.1 ny.2.1;omega
   ·rintro (hi |hi |⟨hl,e⟩ |⟨hl,e⟩)
    ·rw[s3] at hi;exact hs3.heap.imm _ l3 hi
    ·exact hs5.heap.imm _ m3 hi
    ·exact nx.1 (hs5.heap.inj _ _ hl m3 e)
    ·exact ny.1 (hs5.heap.inj _ _ hl m3 e)
   ·rintro (hi |hi |⟨hl,e⟩ |⟨hl,e⟩)
    ·rw[s4] at hi;exact hs3.heap.imm _ l4 hi
    ·exact hs5.heap.imm _ m4 hi
    ·exact nx.2.1 (hs5.heap.inj _ _ hl m4 e)
    ·exact ny.2.1 (hs5.heap.inj _ _ hl m4 e)
   ·rintro (hi |hi |⟨hl,e⟩ |⟨hl,e⟩)
    ·have:=hs3.heap.lt _ hi;omega
    ·exact hs5.heap.imm _ m9 hi
    ·exact nx.2.2 (hs5.heap.inj _ _ hl m9 e)
    ·exact ny.2.2 (hs5.heap.inj _ _ hl m9 e)
  ·rintro b (hb |hb)
   ·exact Nat.lt_of_lt_of_le (hs3.heap.lt b hb) (Nat.le_trans hf.size hs5.heap.frame.size)
   ·exact hJlt b hb
 refine⟨ED,J,fun b hb=>Nat.le_trans hN0 (hJN b hb),fun b hb=>.inr hb,?_,?_,d1,d2,d3,hsat⟩
 ·have mk4:zL N0 w4 (fun b=>EC.I b\/E3.I b) D:=hmk.fM (fun b hb=>hf.block b (Array.getElem?_eq_some_iff.1 hb).1 (fun x=>x)) (fun b hb hi=>by
   rcases hi with hi |hi
   ·exact absurd (Array.getElem?_eq_some_iff.1 hb).1 (Nat.not_lt.2 (hCI b hi))
   ·exact hi)
  have mk5:=zL.step2 (K:=E3.I) hs5 (Nat.le_trans hN0 hf.size) mk4 (fun b hb=>Nat.lt_of_lt_of_le (hs3.heap.lt b hb) hf.size) hMk
  refine mk5.fM (fun b hb=>rfl) (fun b hb hi=>?_)
  rcases hi with hi |hi |⟨⟨oj,hj,lj⟩,rfl⟩ |⟨⟨oj,hj,lj⟩,rfl⟩
  ·exact .inr hi
  ·exact .inl hi
  ·exact absurd hb ((hs5.heap.ob x oj hj).2.kind lj)
  ·exact absurd hb ((hs5.heap.ob y oj hj).2.kind lj)
 ·rintro b ⟨j,⟨oj,hj,lj⟩,rfl⟩
  refine⟨?_,(hsat.heap.ob j oj hj).2.kind lj⟩
  show N0<=E5.ρ j
  rcases csD_cases (E:=ED) hj lj with rfl |rfl |rfl |rfl
  ·rw[s2];exact hge _ l2
  ·rw[s3];exact hge _ l3
  ·rw[s4];exact hge _ l4
  ·exact Nat.le_trans hN0 (new5 9086 m9 (by decide) (by decide))
theorem Frm.up{w0 w w' : World}{N:Nat}{M:Nat->Prop}(h:Frm w0 (fun b=>N<=b) w) (k:Frm w M w') (hM:∀b,M b->N<=b):Frm w0 (fun b=>N<=b) w' :=
 h.trans' k fun b _ hb hm=>hb (hM b hm)
theorem kT{P:Program}{fn:Func}{B:Bs}{E:En}{S:St}{a:Act}{w:World}{ss:List SV}{N:Nat}{R:Ending->World->Prop}(hs:SatE B E S a w) (hm:zL N w E.I a.defers) (hr:zAd P B.n S fn.results.toList=some ss)
  (h:∀v w',w'.os=w.os->w'.tape=w.tape->w'.output=w.output->w'.drawn=w.drawn->w'.heap.size=w.heap.size->(∀b,(N<=b->w.heap[b]? ≠ some (.deferred (some [])))->w'.heap[b]? = w.heap[b]?)->(∀b,E.I b->w'.heap[b]? = w.heap[b]?) ->
   HSat { w with heap:=#[] } (fun _=>True) E S.used S.heap w'->Rep E S.used w' (qP ss) v->R (.returned v) w') :
  LeavesInM (FR none) 0 P fn a.tmps R a.defers .returning w:=by
 obtain⟨ds,hds,hnd,hd⟩:=hm
 have hb:=hs.bare
 have hsh:=SatE.shut (B:=Go.Sx.bare w S.used B.n a.defers) ds hnd w hb (fun d hd' =>⟨(hd d hd').2.1,(hd d hd').2.2,Nat.zero_le _⟩)
 rw[hds]
 refine xJ ds hnd w (fun d hm=>(hd d hm).2.2) ?_
 obtain⟨v,hrun,hrep⟩:=kK (fn:=fn) hsh hr
 have key:∀(ds:List Nat)(w:World),(ds.foldl (fun w d=>w.putObj d (.deferred none)) w).os=w.os/\(ds.foldl (fun w d=>w.putObj d (.deferred none)) w).tape=w.tape/\(ds.foldl (fun w d=>w.putObj d (.deferred none)) w).output=w.output/\(ds.foldl (fun w d=>w.putObj d (.deferred none)) w).drawn=w.drawn/\(ds.foldl (fun w d=>w.putObj d (.deferred none)) w).heap.size=w.heap.size/\∀b,b ∉ ds->(ds.foldl (fun w d=>w.putObj d (.deferred none)) w).heap[b]? = w.heap[b]?:=by
  intro ds
  induction ds with
  |nil=>intro w;exact⟨rfl,rfl,rfl,rfl,rfl,fun _ _=>rfl⟩
  |cons d ds ih=>
   intro w
   obtain⟨h1,h2,h3,h4,h5,h6⟩:=ih (w.putObj d (.deferred none))
   refine⟨h1,h2,h3,h4,by rw[List.foldl_cons,h5,World.putObj_size],fun b hb=>?_⟩
   rw[List.foldl_cons,h6 b (fun h=>hb (List.mem_cons_of_mem _ h)),World.putObj_heap_other (fun e=>hb (by rw[e];exact List.mem_cons_self))]
 obtain⟨h1,h2,h3,h4,h5,h6⟩:=key ds w
 refine⟨v,hrun,h v _ h1 h2 h3 h4 h5 (fun b hb=>h6 b fun hin=>hb (hd b hin).1 (hd b hin).2.2) (fun b hb=>h6 b fun hin=>(hd b hin).2.1 hb) hsh.heap hrep⟩
theorem rep_of{I:Nat->Prop}{U:Nat->Bool}{w:World}{ty:Ty}{l:List ty.den}{v:Value}(h:zG I w (.sl ty) l [v]):Rep (E0 I) U w (.sl ty l) v:=by
 unfold Rep
 exact h
theorem siteD_of{I:Nat->Prop}{w:World}{t c h o p n k:Int}{es:List E4}{vs:List (List Int)}{ps:List Pm}{x y z:Value}(d1:zG I w (.sl tEl) es [x]) (d2:zG I w (.sl tIs) vs [y]) (d3:zG I w (.sl tPm) ps [z]) :
  zA (E0 I) noU w (fR t c h o p es vs n ps k) [.int .i64 t,.int .i64 c,.int .i64 h,.int .i64 o,.int .i64 p,x,y,.int .i64 n,z,.int .i64 k]:=by
 have ri:∀(n:Int),Rep (E0 I) noU w (.int .i64 n) (.int .i64 n):=fun n=>by unfold Rep;rfl
 exact zA.cons (ri _) (zA.cons (ri _) (zA.cons (ri _) (zA.cons (ri _) (zA.cons (ri _) (zA.cons (rep_of d1) (zA.cons (rep_of d2) (zA.cons (ri _) (zA.cons (rep_of d3) (zA.cons (ri _) zA.nil)))))))))
theorem fin_zero{w w1 w2:World}{E:En}{U:Nat->Bool}{v:Value}{m:Int}(f:Frm w (fun b=>w.heap.size<=b) w1) (g1:w2.os=w1.os) (g2:w2.tape=w1.tape) (g3:w2.output=w1.output) (g4:w2.drawn=w1.drawn) (g5:w2.heap.size=w1.heap.size)
  (g6:∀b,(w.heap.size<=b->w1.heap[b]? ≠ some (.deferred (some [])))->w2.heap[b]? = w1.heap[b]?) (hrep:Rep E U w2 (qP [.agg xS,.int .i64 m]) v) :
  qL (resG (qJ,m))=true/\∃v',Ending.returned v = .returned v'/\Frm w (fun _=>False) w2/\∃I' : Nat->Prop,(∀b,I' b->w.heap.size<=b)/\(∀b,I' b->b<w2.heap.size)/\Rep (E0 I') noU w2 (resG (qJ,m)) v':=by
 refine⟨rfl,v,rfl,⟨g1.trans f.os,g2.trans f.tape,g3.trans f.output,by rw[g5];exact f.size,by rw[g4];exact f.drawn,fun b hb _=>(g6 b fun hN=>absurd hb (Nat.not_lt.2 hN)).trans (f.block b hb (Nat.not_le.2 hb))⟩,fun _=>False,fun b h=>h.elim,fun b h=>h.elim,?_⟩
 exact LeS.rep _ _ _ (leS_bad m) (xD (E:=E) (E':=E0 fun _=>False) (U':=noU) _ _ (by rfl) hrep)
theorem actS_k(s:zE)(e:zN):(zK s e).2.2.2.2.2.2.2=s.2.2.2.2.2.2.2:=by
 unfold zK
 repeat' split
 all_goals rfl
set_option maxRecDepth 100000 in
theorem dD_ok{t c h o p:Int}{es:List E4}{vs:List (List Int)}{n:Int}{ps:List Pm}{k:Int}{t' c' h' o' p' : Int}{es' : List E4}{vs' : List (List Int)}{n' : Int}{ps' : List Pm}{k' : Int}{e0 e1 e2 e3 e4 e5:Int}(T:zE)
  (hT:fL T e0=(t',c',h',o',p',(es',vs',n'),ps',k')) (hk:k'=k) (h2:zB (es,vs,n)=0) (h3:ps.length<=1000) :
  (jR (P:=P) [c_openS.gc,c_broken.gc] (fun _=>none) [] 86 1 (vJ blk1) (csD (jM (t',c',h',o',p',(es',vs',n'),ps',k') e0) t c h o p es vs n ps k t' c' h' o' p' es' vs' n' ps' k' e0 e1 e2 e3 e4 e5) (fun _=>none) kDD).holds fun x=>x=(Exit.ret,[.agg (siteM t' c' h' o' p' n' (brkN (t,c,h,o,p,(es,vs,n),ps,k) (e0,e1,e2,e3,e4,e5) T) 701 702 703),.int .i64 0]):=by
 rw[T_dD]
 have fin:∀b,brkN (t,c,h,o,p,(es,vs,n),ps,k) (e0,e1,e2,e3,e4,e5) T=b->(Exit.ret,[SV.agg (siteM t' c' h' o' p' n' b 701 702 703),SV.int .i64 0])=(Exit.ret,[.agg (siteM t' c' h' o' p' n' (brkN (t,c,h,o,p,(es,vs,n),ps,k) (e0,e1,e2,e3,e4,e5) T) 701 702 703),.int .i64 0]):=fun b hb=>by rw[hb]
 have hb:brkN (t,c,h,o,p,(es,vs,n),ps,k) (e0,e1,e2,e3,e4,e5) T=if jM (t',c',h',o',p',(es',vs',n'),ps',k') e0=true then -1 else if k = -1 then (if (xF (es,vs,n) t e0 p).2=true/\wK (t,c,h,o,p,(es,vs,n),ps,k)=true then (xF (es,vs,n) t e0 p).1 else e0) else k:=by
  unfold brkN
  dsimp only
  rw[hT]
 refine⟨fun c1=>fin _ (by rw[hb];exact if_pos c1),fun c1=>⟨fun c2=>⟨h2,fun c3=>⟨h3,fun c4=>fin _ ?_,fun c4=>fin _ ?_⟩,fun c3=>fin _ ?_⟩,fun c2=>?_⟩⟩
 ·rw[hb,if_neg (by rw[c1];decide),if_pos (eq_of_beq c2),if_pos ⟨c3,c4⟩]
 ·rw[hb,if_neg (by rw[c1];decide),if_pos (eq_of_beq c2),if_neg (fun k=>by rw[c4] at k;cases k.2)]
 ·rw[hb,if_neg (by rw[c1];decide),if_pos (eq_of_beq c2),if_neg (fun k=>by rw[c3] at k;cases k.1)]
 ·subst hk
  exact fin _ (by rw[hb,if_neg (by rw[c1];decide),if_neg (ne_of_beq_false c2)])
set_option maxRecDepth 100000 in
theorem do_partD{St0:St}{R:Exit×List SV}{B:Bs}{Q:Exit->Act->World->Prop}{a:Act}{w:World}(hs:Sat B St0 a w) (hn:B.n=86) (hT:(jR (P:=P) [c_openS.gc,c_broken.gc] (fun _=>none) [] 86 1 (vJ blk1) St0 (fun _=>none) kDD).holds fun x=>x=R)
  (fin:∀S e a' w' cs q m,Sat B S a' w'->(e,[SV.agg cs,SV.int q m])=R->zAd P 86 S Tryz.f50.results.toList=some [.agg cs,.int q m]->Q e a' w') :
  (vJ blk1).wpIn (FR none) 0 P (Exit.inBlock 1 (Exit.then (tDo22.wpIn (FR none) 0 P Q) Q)) a w:=by
 obtain⟨j,u,A,g,F,C⟩:=B
 replace hn:F=86:=hn
 subst hn
 refine jA hm (r0:=none) (u0:=g) (cx:=[c_openS.gc,c_broken.gc]) (lp:=fun _=>none) (ys:=[]) (B:=⟨j,u,A,g,86,C⟩) (Q:=fun x=>x=R) (fun k hk=>hk) (fun h hh=>by cases hh) (vJ blk1) 1 St0 (fun _=>none) kDD _ (vQ _ _ _ _) (jP _ _) hT ?_ a w hs
 intro e G K6 a6 w6 hK6 hs6 hk6
 cases e with
 |normal=>
  show tDo22.wpIn (FR none) 0 P Q a6 w6
  refine jA hm (r0:=none) (u0:=g) (cx:=[]) (lp:=fun _=>none) (ys:=[]) (B:=⟨j,u,A,g,86,C⟩) (Q:=fun x=>x=R) (fun k hk=>hk) (fun h hh=>by cases hh) tDo22 0 G K6 (fun e S _=>obsT P 86 Tryz.f50 S fun r=>.leaf (e,r)) _ (vQ _ _ _ _) hK6 hk6 ?_ a6 w6 hs6
  intro e D K7 a7 w7 hK7 hs7 hk7
  obtain⟨cs,q,m,hres,hq⟩:=kO (P:=P) (n:=86) (fn:=Tryz.f50) (S:=D) (k:=fun r=>Tree.leaf (e,r)) hk7
  exact fin D e a7 w7 cs q m hs7 hq hres
 |_=>exact hk6.elim
end
end Go.MB
