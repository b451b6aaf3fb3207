/- Logs: the program and the reference read the same (plain law). -/
import Derived.Test.YtfhomgggbhjglaaGreatMeH
import Derived.Test.YtfhomgggbhjglaaGreatMeK
namespace Go.MB
open Go Go.Sx Go.Proofs
set_option linter.unusedVariables false
set_option linter.unusedSimpArgs false
noncomputable section
def Stk{α:Type}(p:Rd->α×Rd):Prop:=∀r,(p r).2.2=false->r.2=false
structure Agr {α:Type}(p q:Rd->α×Rd) (V:α->Prop):Prop where
 sp:Stk p
 sq:Stk q
 back:∀r,(q r).2.2=false->p r=q r
 forth:∀r,(p r).2.2=false->V (p r).1->q r=p r
def seqR{α β:Type}(p:Rd->α×Rd) (q:Rd->β×Rd) (r:Rd):(α×β)×Rd:=(((p r).1,(q (p r).2).1),(q (p r).2).2)
theorem Agr.seq{α β:Type}{p q:Rd->α×Rd}{V:α->Prop}{p' q' : Rd->β×Rd}{V' : β->Prop}(h:Agr p q V) (k:Agr p' q' V'):Agr (seqR p p') (seqR q q') (fun x=>V x.1/\V' x.2) where
 sp r hr:=h.sp r (k.sp _ hr)
 sq r hr:=h.sq r (k.sq _ hr)
 back r hr:=by
  have hr:(q' (q r).2).2.2=false:=hr
  have e1:=h.back r (k.sq _ hr)
  have e2:=k.back _ hr
  show (((p r).1,(p' (p r).2).1),(p' (p r).2).2)=(((q r).1,(q' (q r).2).1),(q' (q r).2).2)
  rw[e1,e2]
 forth r hr hv:=by
  have hr:(p' (p r).2).2.2=false:=hr
  have e1:=h.forth r (k.sp _ hr) hv.1
  have e2:=k.forth _ hr hv.2
  show (((q r).1,(q' (q r).2).1),(q' (q r).2).2)=(((p r).1,(p' (p r).2).1),(p' (p r).2).2)
  rw[e1,e2]
theorem stk_next:Stk zA:=fun r h=>by
 unfold zA at h
 split at h
 ·cases h
 ·exact h
theorem stk_nextD:Stk zB:=fun r h=>by
 unfold zB at h
 split at h
 ·cases h
 ·exact h
theorem agr_next:Agr zA zB (fun _=>True) where
 sp:=stk_next
 sq:=stk_nextD
 back r h:=by
  unfold zB at h ⊢
  unfold zA
  split at h
  ·cases h
  ·rename_i c
   rw[if_neg c,if_neg c]
 forth r h _:=by
  unfold zA at h ⊢
  unfold zB
  split at h
  ·cases h
  ·rename_i c
   rw[if_neg c,if_neg c]
theorem uptoD_good{m:Int}{r:Rd}(h:(zC m r).2.2=false):wi (zB r).1 0 m=true/\zC m r=zB r/\(zB r).2.2=false:=by
 unfold zC at h ⊢
 split at h
 ·rename_i c
  rw[if_pos c]
  exact⟨c,rfl,h⟩
 ·cases h
theorem agr_upto(m:Int):Agr zA (zC m) (fun v=>0<=v/\v<=m) where
 sp:=stk_next
 sq r h:=stk_nextD r (uptoD_good h).2.2
 back r h:=by
  obtain⟨_,h2,h3⟩:=uptoD_good h
  rw[h2]
  exact agr_next.back r h3
 forth r h hv:=by
  have e:=agr_next.forth r h trivial
  unfold zC
  rw[e,if_pos (wi_iff.2 hv)]
theorem agr_rows{α:Type}{p q:Rd->α×Rd}{V:α->Prop}(h:Agr p q V):∀n:Nat,Agr (rowsS p n) (rowsS q n) (fun l=>∀x∈l,V x)
 |0=>⟨fun r h=>h,fun r h=>h,fun r h=>rfl,fun r h _=>rfl⟩
 |n+1=>by
  have k:=agr_rows h n
  refine⟨fun r hr=>h.sp r (k.sp _ hr),fun r hr=>h.sq r (k.sq _ hr),fun r hr=>?_,fun r hr hv=>?_⟩
  ·rw[rowsS] at hr
   have hr:(rowsS q n (q r).2).2.2=false:=hr
   have e1:=h.back r (k.sq _ hr)
   have e2:=k.back _ hr
   rw[rowsS,rowsS,e1,e2]
  ·rw[rowsS] at hr hv
   have hr:(rowsS p n (p r).2).2.2=false:=hr
   have e1:=h.forth r (k.sp _ hr) (hv _ List.mem_cons_self)
   have e2:=k.forth _ hr (fun x hx=>hv x (List.mem_cons_of_mem _ hx))
   rw[rowsS,rowsS,e1,e2]
theorem rwS_good{α:Type}{p:Rd->α×Rd}{m:Int}{r:Rd}(h:(rwS p m r).2.2=false):wi (zA r).1 0 m=true/\rwS p m r=rowsS p (zA r).1.toNat (zA r).2:=by
 unfold rwS at h ⊢
 cases c:wi (zA r).1 0 m with
 |true=>
  rw[if_neg (by decide)]
  exact⟨rfl,rfl⟩
 |false=>
  rw[c,if_pos rfl] at h
  cases h
theorem agr_rw{α:Type}{p q:Rd->α×Rd}{V:α->Prop}(h:Agr p q V) (m:Int):Agr (rwS p m) (rwD q m) (fun l=>∀x∈l,V x) where
 sp r hr:=by
  obtain⟨_,e⟩:=rwS_good hr
  rw[e] at hr
  exact stk_next r ((agr_rows h _).sp _ hr)
 sq r hr:=(agr_upto m).sq r ((agr_rows h _).sq _ hr)
 back r hr:=by
  have hr:(rowsS q (zC m r).1.toNat (zC m r).2).2.2=false:=hr
  obtain⟨u1,u2,u3⟩:=uptoD_good ((agr_rows h _).sq _ hr)
  have e1:=agr_next.back r u3
  show rwS p m r=rowsS q (zC m r).1.toNat (zC m r).2
  unfold rwS
  rw[u2] at hr ⊢
  rw[e1,if_neg (by rw[u1];decide)]
  exact (agr_rows h _).back _ hr
 forth r hr hv:=by
  obtain⟨u1,e⟩:=rwS_good hr
  rw[e] at hr hv ⊢
  have e1:=agr_next.forth r ((agr_rows h _).sp _ hr) trivial
  have e2:=(agr_rows h _).forth _ hr hv
  show rowsS q (zC m r).1.toNat (zC m r).2=_
  unfold zC
  rw[e1,if_pos u1]
  exact e2
def opR(r:Rd):Bool×Rd:=((zA r).1==1,((zA r).2.1,(zA r).2.2||((zA r).1 != 0&&(zA r).1 != 1)))
def opD(r:Rd):Bool×Rd:=((zC 1 r).1==1,(zC 1 r).2)
theorem opR_good{r:Rd}(h:(opR r).2.2=false):(zA r).2.2=false/\(0<=(zA r).1/\(zA r).1<=1):=by
 unfold opR at h
 rw[Bool.or_eq_false_iff,Bool.and_eq_false_iff] at h
 refine⟨h.1,?_⟩
 rcases h.2 with k |k
 ·have:(zA r).1=0:=by simpa using k
  omega
 ·have:(zA r).1=1:=by simpa using k
  omega
theorem agr_op:Agr opR opD (fun _=>True) where
 sp r h:=stk_next r (opR_good h).1
 sq r h:=(agr_upto 1).sq r h
 back r h:=by
  have h:(zC 1 r).2.2=false:=h
  obtain⟨u1,u2,u3⟩:=uptoD_good h
  have u1:=wi_iff.1 u1
  have e:=(agr_upto 1).back r h
  unfold opR opD
  rw[e,h,Bool.false_or]
  have:((zC 1 r).1 != 0&&(zC 1 r).1 != 1)=false:=by
   rw[u2]
   have:(zB r).1=0\/(zB r).1=1:=by omega
   rcases this with k |k<;>rw[k]<;>rfl
  rw[this,<- h]
 forth r h _:=by
  obtain⟨h1,h2⟩:=opR_good h
  have e:=(agr_upto 1).forth r h1 h2
  have hb:(opR r).2.2=(zA r).2.2:=h.trans h1.symm
  unfold opD
  rw[e]
  unfold opR at hb ⊢
  dsimp only at hb
  rw[hb]
attribute [local irreducible] zA zB zC rwS rwD rowsS
theorem agr_el:Agr elR elD (fun e=>(0<=e.1/\e.1<=3)/\True/\True/\True):=(agr_upto 3).seq (agr_next.seq (agr_next.seq agr_next))
theorem agr_en:Agr enR enD (fun e=>True/\True/\True/\True/\True/\True):=agr_next.seq (agr_next.seq (agr_next.seq (agr_next.seq (agr_next.seq agr_next))))
theorem agr_pm:Agr pmR pmD (fun p=>(0<=p.1/\p.1<=16)/\(0<=p.2.1/\p.2.1<=20)/\True/\True):=(agr_upto 16).seq ((agr_upto 20).seq (agr_next.seq agr_op))
abbrev Raw:Type:=Int×Int×Int×Int×Int×List E4×List (List Int)×Int×List Pm×Int×List zP
def allR:Rd->Raw×Rd:=seqR zA (seqR zA (seqR zA (seqR zA (seqR zA (seqR (rwS elR 10) (seqR (rwS (rowsR 10) 8) (seqR zA (seqR (rwS pmR 16) (seqR zA (rwS enR 200))))))))))
def allD:Rd->Raw×Rd:=seqR zB (seqR (zC 20) (seqR (zC 20) (seqR zB (seqR zB (seqR (rwD elD 10) (seqR (rwD (rwD (zC 10) 10) 8) (seqR (zC 3) (seqR (rwD pmD 16) (seqR zB (rwD enD 200))))))))))
theorem agr_all:Agr allR allD (fun x=>True/\(0<=x.2.1/\x.2.1<=20)/\(0<=x.2.2.1/\x.2.2.1<=20)/\True/\True/\(∀e∈x.2.2.2.2.2.1,(0<=e.1/\e.1<=3)/\True/\True/\True)/\(∀l∈x.2.2.2.2.2.2.1,∀i∈l,0<=i/\i<=10)/\(0<=x.2.2.2.2.2.2.2.1/\x.2.2.2.2.2.2.2.1<=3)/\(∀p∈x.2.2.2.2.2.2.2.2.1,(0<=p.1/\p.1<=16)/\(0<=p.2.1/\p.2.1<=20)/\True/\True)/\True/\(∀e∈x.2.2.2.2.2.2.2.2.2.2,True/\True/\True/\True/\True/\True)) :=
 agr_next.seq ((agr_upto 20).seq ((agr_upto 20).seq (agr_next.seq (agr_next.seq ((agr_rw agr_el 10).seq ((agr_rw (agr_rw (agr_upto 10) 10) 8).seq ((agr_upto 3).seq ((agr_rw agr_pm 16).seq (agr_next.seq (agr_rw agr_en 200))))))))))
def toR(x:Raw×Rd):zX×List zP×Rd:=((x.1.1,x.1.2.1,x.1.2.2.1,x.1.2.2.2.1,x.1.2.2.2.2.1,(x.1.2.2.2.2.2.1,x.1.2.2.2.2.2.2.1,x.1.2.2.2.2.2.2.2.1),x.1.2.2.2.2.2.2.2.2.1,x.1.2.2.2.2.2.2.2.2.2.1),x.1.2.2.2.2.2.2.2.2.2.2,x.2)
def readD(r:Rd):zX×List zP×Rd :=
 let t:=zB r
 let c:=zC 20 t.2
 let h:=zC 20 c.2
 let o:=zB h.2
 let q:=zB o.2
 let x:=hsD q.2
 let p:=rwD pmD 16 x.2
 let b:=zB p.2
 let l:=rwD enD 200 b.2
 ((t.1,c.1,h.1,o.1,q.1,x.1,p.1,b.1),l.1,l.2)
theorem readR_all(r:Rd):readR r=toR (allR r):=rfl
theorem readD_all(r:Rd):readD r=toR (allD r):=rfl
def VRaw:Raw->Prop:=(fun x:Raw=>True/\(0<=x.2.1/\x.2.1<=20)/\(0<=x.2.2.1/\x.2.2.1<=20)/\True/\True/\(∀e∈x.2.2.2.2.2.1,(0<=e.1/\e.1<=3)/\True/\True/\True)/\(∀l∈x.2.2.2.2.2.2.1,∀i∈l,0<=i/\i<=10)/\(0<=x.2.2.2.2.2.2.2.1/\x.2.2.2.2.2.2.2.1<=3)/\(∀p∈x.2.2.2.2.2.2.2.2.1,(0<=p.1/\p.1<=16)/\(0<=p.2.1/\p.2.1<=20)/\True/\True)/\True/\(∀e∈x.2.2.2.2.2.2.2.2.2.2,True/\True/\True/\True/\True/\True))
theorem vRaw_ok{x:Raw}{q:Rd}(c2:chkS (toR (x,q)).1=0):VRaw x:=by
 have ha:=(chkS_all c2).1
 have hh:=houseE_ok ha.hou
 obtain⟨j,f,g,s,u,els,envs,need,pms,br,l⟩:=x
 have n1:1<=f/\f<=20:=ha.num.crew
 have n2:0<=g/\g<f:=ha.num.hold
 have n3:1<=need/\need<=3:=hh.nd
 have n4:els.length<=10:=hh.e10
 refine⟨trivial,⟨by show 0<=f;omega,by show f<=20;omega⟩,⟨n2.1,by show g<=20;omega⟩,trivial,trivial,fun e he=>⟨?_,trivial,trivial,trivial⟩,fun y hy i hi=>?_,⟨by show 0<=need;omega,n3.2⟩,fun p hp=>⟨?_,?_,trivial,trivial⟩,trivial,fun e he=>⟨trivial,trivial,trivial,trivial,trivial,trivial⟩⟩
 ·have:=(elE_ok (hh.el e he)).2.2.2.2
  exact this
 ·have k:0<=i/\i<(els.length:Int):=(hh.ev y hy).2.2 i hi
  exact⟨k.1,by omega⟩
 ·have k:=ord_rng ha.ord p hp
  exact⟨by omega,by omega⟩
 ·have k:=List.any_eq_false.1 ha.prm p hp
  unfold prmB at k
  have k1:memB f p.2.1=true:=by
   have k:¬ (!memB f p.2.1 || !wi p.2.2.1 0 2199023255552)=true:=k
   revert k;cases memB f p.2.1<;>simp
  have k1:=memB_iff.1 k1
  exact⟨k1.1,by omega⟩
theorem end_same(a d:Raw×Rd)(hb:d.2.2=false->a=d)(hf:a.2.2=false->VRaw a.1->d=a):endS (toR d)=endS (toR a):=by
 obtain⟨x,sa,ab⟩:=a
 obtain⟨y,ds,db⟩:=d
 cases db with
 |false=>rw[hb rfl]
 |true=>
  have e1:endS (toR (y,ds,true))=(zSite,[],3):=if_pos (.inl rfl)
  rw[e1]
  by_cases c:ab=true\/sa.toList≠ByteArray.empty.toList\/chkS (toR (x,sa,ab)).1≠0
  ·exact (if_pos c).symm
  ·exfalso
   cases ab with
   |true=>exact c (.inl rfl)
   |false=>
    have c2:chkS (toR (x,sa,false)).1=0:=Decidable.not_not.1 fun k=>c (.inr (.inr k))
    have:=hf rfl (vRaw_ok c2)
    cases this
theorem same_end(r:Rd):endS (readD r)=endS (readR r):=by
 rw[readR_all,readD_all]
 exact end_same _ _ (agr_all.back r) (agr_all.forth r)
end
end Go.MB
