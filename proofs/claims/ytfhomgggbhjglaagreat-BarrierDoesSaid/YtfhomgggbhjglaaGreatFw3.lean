/- Part 3 of a verified symbolic walk over the model's code: what it says of a function's code holds of every run of it. No condition. -/
import Derived.Test.YtfhomgggbhjglaaGreatFw2
import Derived.KernelRfl
set_option linter.unusedVariables false
set_option linter.unusedSimpArgs false

namespace Go.Sx
open Go.RowKit
inductive Sh where
 |val (t:Ty)
 |agg (t:Ty)
 |ptr (k o:Nat)
 |row (e:TypeId) (t:Ty)
 |fn (f:FuncId)
 |clo (f:FuncId) (ks:List (Nat × Nat))
 |yld (k:Nat)
 |arr (t:Ty) (n:Nat)
 |nils
 |adr (t:Ty)
 |any
 |oval (t:Ty)
 |rowk (k:Nat) (e:TypeId) (t:Ty)
abbrev Sh.den:Sh->Type
 |.val t=>t.den
 |.agg t=>t.den
 |.row _ t=>List t.den
 |.arr t _=>List t.den
 |.adr t=>t.den
 |.rowk _ _ t=>List t.den
 |.oval t=>List t.den × Bool
 |_=>Unit
abbrev wM:List Sh->Type
 | []=>Unit
 |s::r=>s.den × wM r
def encK(ks:List (Nat × Nat)):List SV:=ks.map fun p=>.ptr p.1 p.2
def ptrsEq(τ:Nat->Nat):List (Nat × Nat)->List SV->Bool
 | [],[]=>true
 |(k,o)::r,.ptr k' o'::q=>Nat.beq (τ k) k'&&Nat.beq o o'&&ptrsEq τ r q
 |_,_=>false
theorem ptrsEq_rep{E1 E2:En}{U U2:Nat->Bool}{w:World}{τ:Nat->Nat}:∀{ks:List (Nat × Nat)}{cs:List SV}{vs:List Value},ptrsEq τ ks cs=true->(∀p∈ks,U2 p.1=true/\E2.ρ p.1=E1.ρ (τ p.1))->zA E1 U w cs vs->zA E2 U2 w (encK ks) vs
 | [],[],_,_,_,hr=>by unfold zA at hr;subst hr;exact zA.nil
 |(k,o)::r,c::q,vs,h,hk,hr=>by
  cases c with
  |ptr k' o' =>
   simp only[ptrsEq,Bool.and_eq_true] at h
   obtain⟨⟨h1,h2⟩,h3⟩:=h
   have e1:=nbT h1
   have e2:=nbT h2
   subst e1 e2
   unfold zA at hr
   obtain⟨v,u,e,hv,hu⟩:=hr
   subst e
   obtain⟨hb1,hb2⟩:=hk (k,o) (by simp)
   refine zA.cons ?_ (ptrsEq_rep h3 (fun p hp=>hk p (List.mem_cons_of_mem _ hp)) hu)
   show Rep E2 U2 w (.ptr k o) v
   unfold Rep at hv ⊢
   exact⟨hb1,by rw[hb2];exact hv.2⟩
  |_=>simp[ptrsEq] at h
 | [],_::_,_,h,_,_=>by simp[ptrsEq] at h
 |_::_,[],_,h,_,_=>by simp[ptrsEq] at h
def Sh.enc(i:Nat):(s:Sh)->s.den->SV
 |.val t,d=>(t.cells d).headD .any
 |.agg t,d=>.agg (t.cells d)
 |.ptr k o,_=>.ptr k o
 |.row _ _,_=>.own i
 |.fn f,_=>.fn f []
 |.clo f ks,_=>.fn f (encK ks)
 |.yld k,_=>.yld k
 |.arr t n,d=>.arr t n d
 |.nils,_=>.nils
 |.adr t,d=>.adr t d
 |.rowk k _ _,_=>.own k
 |.any,_=>.any
 |.oval t,d=>.nsl t d.1 d.2
def z_:Nat->(l:List Sh)->wM l->List SV
 |_,[],_=>[]
 |i,s::r,d=>s.enc i d.1::z_ (i+1) r d.2
def Sh.dec:(s:Sh)->SV->Option s.den
 |.val t,v=>match t.vO [v] with
  |some (d,[])=>some d
  |_=>none
 |.agg t,v=>match v with
  |.agg cs=>match t.vO cs with
   |some (d,[])=>some d
   |_=>none
  |_=>none
 |.adr t,v=>match v with
  |.adr t' d=>if h:Ty.beq t' t=true then some ((Ty.beq_eq h) ▸ d) else none
  |_=>none
 |_,_=>none
def decL:(l:List Sh)->List SV->Option (wM l)
 | [],[]=>some ()
 |s::r,v::q=>match s.dec v with
  |some d=>match decL r q with
   |some x=>some (d,x)
   |none=>none
  |none=>none
 |_,_=>none
theorem Sh.dec_ok{E E' : En}{U U' : Nat->Bool}{w:World}(hI:E'.I=E.I) (i:Nat):∀{s:Sh}{c:SV}{d:s.den}{v:Value},s.dec c=some d->Rep E U w c v->Rep E' U' w (s.enc i d) v
 |.val t,c,d,v,h,hr=>by
  simp only[Sh.dec] at h
  split at h<;>try (cases h;done)
  rename_i d' hd
  cases h
  obtain⟨x,y,e,h1,h2⟩:=Ty.wH t _ _ _ _ hd (zA.cons hr zA.nil)
  unfold zA at h2
  subst h2
  rw[List.append_nil] at e
  subst e
  rw[<- hI] at h1
  have h3:=zG.cells (E:=E') (U:=U') t d _ h1
  show Rep E' U' w ((t.cells d).headD .any) v
  have hl:=h3.length
  match hc:t.cells d,h3,hl with
  | [s],h3,_=>
   obtain⟨v',e,h4⟩:=pT h3
   cases e
   exact h4
 |.agg t,c,d,v,h,hr=>by
  simp only[Sh.dec] at h
  split at h<;>try (cases h;done)
  split at h<;>try (cases h;done)
  rename_i d' hd
  cases h
  unfold Rep at hr
  obtain⟨vs,e,hl⟩:=hr
  obtain⟨x,y,e2,h1,h2⟩:=Ty.wH t _ _ _ _ hd hl
  unfold zA at h2
  subst h2
  rw[List.append_nil] at e2
  subst e2
  rw[<- hI] at h1
  show Rep E' U' w (.agg (t.cells d)) v
  unfold Rep
  exact⟨_,e,zG.cells t d _ h1⟩
 |.ptr ..,_,_,_,h,_=>by cases h
 |.row ..,_,_,_,h,_=>by cases h
 |.fn ..,_,_,_,h,_=>by cases h
 |.clo ..,_,_,_,h,_=>by cases h
 |.yld ..,_,_,_,h,_=>by cases h
 |.arr ..,_,_,_,h,_=>by cases h
 |.nils,_,_,_,h,_=>by cases h
 |.adr t,c,d,v,h,hr=>by
  simp only[Sh.dec] at h
  split at h<;>try (cases h;done)
  split at h<;>try (cases h;done)
  rename_i hb
  have e:=Ty.beq_eq hb
  subst e
  cases h
  exact zI hI (.adr _ _) v rfl hr
 |.any,_,_,_,h,_=>by cases h
 |.oval _,_,_,_,h,_=>by cases h
theorem decL_ok{E E' : En}{U U' : Nat->Bool}{w:World}(hI:E'.I=E.I):∀(i:Nat){l:List Sh}{cs:List SV}{d:wM l}{vs:List Value},decL l cs=some d->zA E U w cs vs->zA E' U' w (z_ i l d) vs
 |_,[],[],_,_,_,hr=>by unfold zA at *;exact hr
 |i,s::r,c::q,d,vs,h,hr=>by
  simp only[decL] at h
  split at h<;>try (cases h;done)
  rename_i d1 h1
  split at h<;>try (cases h;done)
  rename_i x h2
  cases h
  unfold zA at hr
  obtain⟨v,u,e,hv,hu⟩:=hr
  subst e
  exact zA.cons (Sh.dec_ok hI i h1 hv) (decL_ok hI (i+1) h2 hu)
 |_,[],_::_,_,_,h,_=>by cases h
 |_,_::_,[],_,_,h,_=>by cases h
theorem HSat.still{w0:World}{M:Nat->Prop}{E:En}{U:Nat->Bool}{H:Hp}{w w' : World}(hs:HSat w0 M E U H w) (hf:Frm w (fun _=>False) w') {I' : Nat->Prop}(h1:∀b,E.I b->I' b) (h2:∀b,I' b->E.I b\/w.heap.size<=b) (h3:∀b,I' b->b<w'.heap.size) :
  En.Le U U E { E with I:=I' } w w'/\HSat w0 M { E with I:=I' } U H w':=by
 have hle:En.Le U U E { E with I:=I' } w w':=⟨fun _ h=>h,fun _ _=>rfl,fun _ _=>rfl,h1,fun b hb=>hf.block b (hs.lt b hb) fun x=>x,fun _ _=>rfl⟩
 have hlv:∀k,jF { E with I:=I' } H k->jF E H k:=fun k ⟨o,ho,hl⟩=>⟨o,ho,Ob.xI rfl hl⟩
 refine⟨hle,fun k o hk=>?_,fun j k hj hk he=>hs.inj j k (hlv j hj) (hlv k hk) he,fun k hk hi=>?_,h3,fun k hk=>hs.mine k (hlv k hk),?_⟩
 ·obtain⟨hU,hr⟩:=hs.ob k o hk
  refine⟨hU,hr.mono hle hU fun hl=>hf.block _ (hr.lt hl) fun x=>x⟩
 ·rcases h2 _ hi with h |h
  ·exact hs.imm k (hlv k hk) h
  ·have:=hs.jV (hlv k hk)
   exact absurd h (Nat.not_le.2 this)
 ·have f0:=hs.frame
  refine⟨hf.os.trans f0.os,hf.tape.trans f0.tape,hf.output.trans f0.output,Nat.le_trans f0.size hf.size,Nat.le_trans f0.drawn hf.drawn,fun b hb hM=>?_⟩
  rw[hf.block b (Nat.lt_of_lt_of_le hb f0.size) fun x=>x]
  exact f0.block b hb hM
structure PC (P:Program) where
 f:FuncId
 ps:List Sh
 pre:wM ps->Option Prop
 out:wM ps->SV
 ent:entB P f=true
 ok:∀x,ndP (pre x)->FnOk P f (z_ 0 ps x) (out x)
def PC.con{P:Program}(c:PC P):Con:=fun args H _=>match decL c.ps (vwL H args) with
 |some x=>some { need:=c.pre x,res:=c.out x,upd:=bif isFlat (c.out x) then [] else pC H (wX args) }
 |none=>none
theorem PC.conOk{P:Program}(c:PC P):ConOk P c.f c.con:=by
 intro args H base eff he E U w zM hs hr _ hnd
 simp only[PC.con] at he
 split at he<;>try (cases he;done)
 rename_i x hx
 cases he
 obtain⟨E1,hle1,hs1,hfr⟩:=hs.wC (wX args) E H
 have hv:=fX (H:=H) hs1 args zM (fun k hk=>by simp[hk]) (zA.mono hle1 _ _ hr)
 have hargs:=decL_ok (E:=E1) (E':=E0 E1.I) (U':=noU) rfl 0 hx hv
 refine (c.ok x hnd E1.I w zM hs1.lt hargs).mono ?_
 rintro e w' ⟨hdat,v,rfl,hf,I',hI1,hI2,hI3,hrep⟩
 refine⟨v,rfl,?_⟩
 simp only[vC]
 cases hflat:isFlat (c.out x) with
 |true=>
  simp only[cond_true,apH_nil]
  obtain⟨h1,h2⟩:=hs.still hf (I':=E.I) (fun _ h=>h) (fun _ h=>.inl h) (fun b hb=>Nat.lt_of_lt_of_le (hs.lt b hb) hf.size)
  exact⟨E,h1,h2,vZ.refl rfl H w,xD _ _ hflat hrep⟩
 |false=>
  simp only[cond_false]
  obtain⟨h1,h2⟩:=hs1.still hf hI1 hI2 hI3
  refine⟨{ E1 with I:=I' },hle1.trans h1,?_,fun b hb=>?_,?_⟩
  ·refine HSat.congr ?_ h2
   funext k
   rw[frzUpd_at]
  ·rcases hI2 b hb with h |h
   ·rcases hfr b h with h |h
    ·exact .inl h
    ·exact .inr (.inl h)
   ·exact .inr (.inr h)
  ·exact zI (E:=E0 I') (E':={ E1 with I:=I' }) rfl _ _ hdat hrep
end Go.Sx
namespace Go.Sx
open Go.RowKit
def v_:Nat:=1000000
structure Lay where
 slots:List (Nat × Sh)
 boxes:List (Nat × List Sh):=[]
 recs:List (Nat × RS):=[]
 rb:Nat:=v_
def Lay.shs(L:Lay):List Sh:=L.slots.map (·.2)++L.boxes.flatMap (·.2)
abbrev Lay.den(L:Lay):Type:=wM L.shs
def yO:List Sh->List Nat
 |.rowk k _ _::r=>k::yO r
 |_::r=>yO r
 | []=>[]
def Lay.ids(L:Lay):List Nat:=L.boxes.map (·.1)++L.recs.map (·.1)++yO L.shs
def Lay.kG(L:Lay):List (Nat × Nat):=L.boxes.map fun b=>(b.1,b.2.length)
def lookT:List Nat->List SV->Nat->SV
 |n::ns,v::vs,t=>bif Nat.beq t n then v else lookT ns vs t
 |_,_,_=>.any
def lookB:List (Nat × Nat)->List SV->Nat->Option (List SV)
 |(k,n)::r,vs,j=>bif Nat.beq j k then some (vs.take n) else lookB r (vs.drop n) j
 | [],_,_=>none
def wB:Nat->(l:List Sh)->wM l->Nat->Option Ob
 |i,.row e t::r,d,k=>bif Nat.beq k i then some (.row e t d.1) else wB (i+1) r d.2 k
 |i,.val _::r,d,k=>wB (i+1) r d.2 k
 |i,.agg _::r,d,k=>wB (i+1) r d.2 k
 |i,.ptr _ _::r,d,k=>wB (i+1) r d.2 k
 |i,.fn _::r,d,k=>wB (i+1) r d.2 k
 |i,.clo _ _::r,d,k=>wB (i+1) r d.2 k
 |i,.yld _::r,d,k=>wB (i+1) r d.2 k
 |i,.arr _ _::r,d,k=>wB (i+1) r d.2 k
 |i,.adr _::r,d,k=>wB (i+1) r d.2 k
 |i,.nils::r,d,k=>wB (i+1) r d.2 k
 |i,.any::r,d,k=>wB (i+1) r d.2 k
 |i,.oval _::r,d,k=>wB (i+1) r d.2 k
 |i,.rowk k' e t::r,d,k=>bif Nat.beq k k' then some (.row e t d.1) else wB (i+1) r d.2 k
 |_,[],_,_=>none
def jC:Nat->List Sh->List Nat
 |i,.row _ _::r=>i::jC (i+1) r
 |i,_::r=>jC (i+1) r
 |_,[]=>[]
def lookR:List (Nat × RS)->Nat->Option Ob
 |(k,p)::r,j=>bif Nat.beq j k then some (.rnd p) else lookR r j
 | [],_=>none
def usd(u0:Nat->Bool)(l:List Nat):Nat->Bool:=fun k=>u0 k||inL l k
theorem usd_l{u0:Nat->Bool}{l:List Nat}{k:Nat}(h:u0 k=true):usd u0 l k=true:=by unfold usd;rw[h];rfl
theorem usd_r{u0:Nat->Bool}{l:List Nat}{k:Nat}(h:k∈l):usd u0 l k=true:=by unfold usd;rw[zO.2 h];simp
def Lay.st(L:Lay)(u0:Nat->Bool)(x:L.den):St :=
 let svs:=z_ L.rb L.shs x
 {tmps:=lookT (L.slots.map (·.1)) svs
  heap:=fun k=>match lookB L.kG (svs.drop L.slots.length) k with
   |some cs=>some (.box cs)
   |none=>match lookR L.recs k with
    |some o=>some o
    |none=>wB L.rb L.shs x k
  used:=usd u0 (L.ids++jC L.rb L.shs) }
def Sh.ext(H:Hp):(s:Sh)->SV->Option s.den
 |.val t,v=>Sh.dec (.val t) (vw H v)
 |.agg t,v=>Sh.dec (.agg t) (vw H v)
 |.ptr k o,v=>match v with
  |.ptr k' o' =>if Nat.beq k k'&&Nat.beq o o' then some () else none
  |_=>none
 |.row e t,v=>match v with
  |.own j=>match H j with
   |some (.row e' t' l)=>if h:Nat.beq e e'=true/\Ty.beq t' t=true then some (show List t.den from (Ty.beq_eq h.2) ▸ l) else none
   |_=>none
  |.nils=>some (show List t.den from [])
  |_=>none
 |.fn f,v=>match v with
  |.fn g []=>if Nat.beq f g then some () else none
  |_=>none
 |.clo f ks,v=>match v with
  |.fn g cs=>if Nat.beq f g&&ptrsEq id ks cs then some () else none
  |_=>none
 |.yld k,v=>match v with
  |.yld k' =>if Nat.beq k k' then some () else none
  |_=>none
 |.arr t n,v=>match v with
  |.arr t' n' l=>if h:Ty.beq t' t=true/\Nat.beq n' n=true then some (show List t.den from (Ty.beq_eq h.1) ▸ l) else none
  |_=>none
 |.adr t,v=>Sh.dec (.adr t) v
 |.nils,v=>match v with
  |.nils=>some ()
  |_=>none
 |.any,v=>bif jU v then none else some ()
 |.oval _,_=>none
 |.rowk k e t,v=>match v with
  |.own j=>if Nat.beq k j=true then match H j with
   |some (.row e' t' l)=>if h:Nat.beq e e'=true/\Ty.beq t' t=true then some (show List t.den from (Ty.beq_eq h.2) ▸ l) else none
   |_=>none
   else none
  |_=>none
def extL(H:Hp):(l:List Sh)->List SV->Option (wM l)
 | [],[]=>some ()
 |s::r,v::q=>match s.ext H v with
  |some d=>match extL H r q with
   |some x=>some (d,x)
   |none=>none
  |none=>none
 |_,_=>none
def grabB:List (Nat × Nat)->Hp->Option (List SV)
 |(k,n)::r,H=>match H k with
  |some (.box cs)=>if Nat.beq cs.length n then match grabB r H with
   |some q=>some (cs++q)
   |none=>none
   else none
  |_=>none
 | [],_=>some []
def exitBeq:Exit->Exit->Bool
 |.normal,.normal=>true
 |.ret,.ret=>true
 |.exit a,.exit b=>Nat.beq a b
 |_,_=>false
theorem exitBeq_eq:∀{a b:Exit},exitBeq a b=true->a=b
 |.normal,.normal,_=>rfl
 |.ret,.ret,_=>rfl
 |.exit a,.exit b,h=>by rw[nbT h]
 |.normal,.exit _,h |.normal,.ret,h |.normal,.goto _,h |.normal,.panic _,h |.normal,.outgrown,h=>by cases h
 |.ret,.exit _,h |.ret,.normal,h |.ret,.goto _,h |.ret,.panic _,h |.ret,.outgrown,h=>by cases h
 |.exit _,.normal,h |.exit _,.ret,h |.exit _,.goto _,h |.exit _,.panic _,h |.exit _,.outgrown,h=>by cases h
 |.goto _,_,h |.panic _,_,h |.outgrown,_,h=>by cases h
def RS.beq:RS->RS->Bool
 |.ready,.ready=>true
 |.busy,.busy=>true
 |.done a,.done b=>exitBeq a b
 |_,_=>false
theorem RS.beq_eq:∀{a b:RS},RS.beq a b=true->a=b
 |.ready,.ready,_=>rfl
 |.busy,.busy,_=>rfl
 |.done a,.done b,h=>by rw[exitBeq_eq h]
 |.ready,.busy,h |.ready,.done _,h |.busy,.ready,h |.busy,.done _,h |.done _,.ready,h |.done _,.busy,h=>by cases h
def recsOk:List (Nat × RS)->Hp->Bool
 |(k,p)::r,H=>(match H k with
  |some (.rnd q)=>RS.beq q p
  |_=>false)&&recsOk r H
 | [],_=>true
def frzL:List Sh->List SV->List Nat
 |.val _::r,v::q=>vW v++frzL r q
 |.agg _::r,v::q=>vW v++frzL r q
 |_::r,_::q=>frzL r q
 |_,_=>[]
def yX:List Nat->List Sh->List SV->Bool
 |seen,.row _ _::r,v::q=>match v with
  |.own j=>!inL seen j&&yX (j::seen) r q
  |_=>yX seen r q
 |seen,.rowk k _ _::r,_::q=>!inL seen k&&yX (k::seen) r q
 |seen,_::r,_::q=>yX seen r q
 |_,_,_=>true
def w_(bs:List Nat):List Sh->Bool
 |.ptr k _::r=>inL bs k&&w_ bs r
 |.yld k::r=>inL bs k&&w_ bs r
 |.rowk k _ _::r=>inL bs k&&w_ bs r
 |.clo _ ks::r=>(ks.all fun p=>inL bs p.1)&&w_ bs r
 |_::r=>w_ bs r
 | []=>true
def Lay.ok(L:Lay)(u0:Nat->Bool):Bool :=
 w_ L.ids L.shs&&(jC L.rb L.shs).all fun k=>!usd u0 L.ids k
def Lay.ext(L:Lay)(n:Nat)(S:St):Option L.den :=
 match grabB L.kG S.heap with
 |some q=>
  let svs:=(L.slots.map fun x=>S.eval n (.tmp x.1))++q
  if yX (frzL L.shs svs) L.shs svs&&recsOk L.recs S.heap then extL S.heap L.shs svs else none
 |none=>none
def pP:Nat->List Sh->List SV->Nat->Option SV
 |i,.row _ _::r,v::q,k=>bif Nat.beq k i then some v else pP (i+1) r q k
 |i,_::r,_::q,k=>pP (i+1) r q k
 |_,_,_,_=>none
theorem zX(a b:Nat):Nat.beq a b=decide (a=b):=by
 by_cases h:a=b
 ·subst h;simp[Nat.beq_refl]
 ·have:Nat.beq a b=false:=by
   cases hb:Nat.beq a b
   ·rfl
   ·exact absurd (nbT hb) h
  simp[this,h]
theorem qX:∀{i:Nat}{l:List Sh}{svs:List SV}{k:Nat}{v:SV},pP i l svs k=some v->i<=k
 |i,[],svs,k,v,h=>by cases svs<;>cases h
 |i,s::r,[],k,v,h=>by cases s<;>cases h
 |i,.row e t::r,c::q,k,v,h=>by
  simp only[pP,zX] at h
  by_cases hk:k=i
  ·exact Nat.le_of_eq hk.symm
  ·simp only[hk,decide_false,cond_false] at h
   have:=qX h;omega
 |i,.val _::r,c::q,k,v,h=>by have:=qX (i:=i+1) (l:=r) (svs:=q) h;omega
 |i,.agg _::r,c::q,k,v,h=>by have:=qX (i:=i+1) (l:=r) (svs:=q) h;omega
 |i,.ptr _ _::r,c::q,k,v,h=>by have:=qX (i:=i+1) (l:=r) (svs:=q) h;omega
 |i,.fn _::r,c::q,k,v,h=>by have:=qX (i:=i+1) (l:=r) (svs:=q) h;omega
 |i,.clo _ _::r,c::q,k,v,h=>by have:=qX (i:=i+1) (l:=r) (svs:=q) h;omega
 |i,.yld _::r,c::q,k,v,h=>by have:=qX (i:=i+1) (l:=r) (svs:=q) h;omega
 |i,.arr _ _::r,c::q,k,v,h=>by have:=qX (i:=i+1) (l:=r) (svs:=q) h;omega
 |i,.adr _::r,c::q,k,v,h=>by have:=qX (i:=i+1) (l:=r) (svs:=q) h;omega
 |i,.nils::r,c::q,k,v,h=>by have:=qX (i:=i+1) (l:=r) (svs:=q) h;omega
 |i,.any::r,c::q,k,v,h=>by have:=qX (i:=i+1) (l:=r) (svs:=q) h;omega
 |i,.oval _::r,c::q,k,v,h=>by have:=qX (i:=i+1) (l:=r) (svs:=q) h;omega
 |i,.rowk _ _ _::r,c::q,k,v,h=>by have:=qX (i:=i+1) (l:=r) (svs:=q) h;omega
theorem yF:∀{i:Nat}{l:List Sh}{svs:List SV}{k:Nat}{v:SV},pP i l svs k=some v->k∈jC i l
 |i,[],svs,k,v,h=>by cases svs<;>cases h
 |i,s::r,[],k,v,h=>by cases s<;>cases h
 |i,.row e t::r,c::q,k,v,h=>by
  simp only[pP,zX] at h
  by_cases hk:k=i
  ·simp[jC,hk]
  ·simp only[hk,decide_false,cond_false] at h
   exact List.mem_cons_of_mem _ (yF h)
 |i,.val _::r,c::q,k,v,h=>yF (i:=i+1) (l:=r) (svs:=q) h
 |i,.agg _::r,c::q,k,v,h=>yF (i:=i+1) (l:=r) (svs:=q) h
 |i,.ptr _ _::r,c::q,k,v,h=>yF (i:=i+1) (l:=r) (svs:=q) h
 |i,.fn _::r,c::q,k,v,h=>yF (i:=i+1) (l:=r) (svs:=q) h
 |i,.clo _ _::r,c::q,k,v,h=>yF (i:=i+1) (l:=r) (svs:=q) h
 |i,.yld _::r,c::q,k,v,h=>yF (i:=i+1) (l:=r) (svs:=q) h
 |i,.arr _ _::r,c::q,k,v,h=>yF (i:=i+1) (l:=r) (svs:=q) h
 |i,.adr _::r,c::q,k,v,h=>yF (i:=i+1) (l:=r) (svs:=q) h
 |i,.nils::r,c::q,k,v,h=>yF (i:=i+1) (l:=r) (svs:=q) h
 |i,.any::r,c::q,k,v,h=>yF (i:=i+1) (l:=r) (svs:=q) h
 |i,.oval _::r,c::q,k,v,h=>yF (i:=i+1) (l:=r) (svs:=q) h
 |i,.rowk _ _ _::r,c::q,k,v,h=>yF (i:=i+1) (l:=r) (svs:=q) h
theorem yI{H:Hp}:∀{i:Nat}{l:List Sh}{svs:List SV}{x:wM l}{k:Nat}{o:Ob},extL H l svs=some x->wB i l x k=some o ->
  (∃e t m v,o = .row e t m/\pP i l svs k=some v/\((∃j,v = .own j/\H j=some (.row e t m))\/(v = .nils/\m=[])))\/(k∈yO l/\H k=some o/\∃e t m,o = .row e t m)
 |i,[],svs,x,k,o,_,h=>by cases h
 |i,s::r,[],x,k,o,h,_=>by cases h
 |i,s::r,c::q,x,k,o,hx,h=>by
  simp only[extL] at hx
  split at hx<;>try (cases hx;done)
  rename_i d hd
  split at hx<;>try (cases hx;done)
  rename_i y hy
  cases hx
  cases s with
  |row e t=>
   simp only[wB,pP,zX] at h ⊢
   by_cases hk:k=i
   ·simp only[hk,decide_true,cond_true,Option.some.injEq] at h ⊢
    refine .inl ⟨e,t,d,c,h.symm,rfl,?_⟩
    simp only[Sh.ext] at hd
    split at hd<;>try (cases hd;done)
    ·rename_i j
     split at hd<;>try (cases hd;done)
     rename_i e' t' l' hj
     split at hd<;>try (cases hd;done)
     rename_i hb
     have h1:=nbT hb.1
     have h2:=Ty.beq_eq hb.2
     subst h1 h2
     cases hd
     exact .inl ⟨j,rfl,hj⟩
    ·cases hd
     exact .inr ⟨rfl,rfl⟩
   ·simp only[hk,decide_false,cond_false] at h ⊢
    exact yI hy h
  |val t=>exact yI (i:=i+1) hy h
  |agg t=>exact yI (i:=i+1) hy h
  |ptr a b=>exact yI (i:=i+1) hy h
  |fn f=>exact yI (i:=i+1) hy h
  |clo f ks=>exact yI (i:=i+1) hy h
  |yld f=>exact yI (i:=i+1) hy h
  |arr t n=>exact yI (i:=i+1) hy h
  |adr t=>exact yI (i:=i+1) hy h
  |nils=>exact yI (i:=i+1) hy h
  |any=>exact yI (i:=i+1) hy h
  |oval t=>exact yI (i:=i+1) hy h
  |rowk k' e t=>
   simp only[wB,zX] at h
   by_cases hk:k=k'
   ·simp only[hk,decide_true,cond_true,Option.some.injEq] at h
    subst hk
    simp only[Sh.ext] at hd
    split at hd<;>try (cases hd;done)
    rename_i j
    split at hd<;>try (cases hd;done)
    rename_i hb0
    split at hd<;>try (cases hd;done)
    rename_i e' t' l' hj
    split at hd<;>try (cases hd;done)
    rename_i hb
    have h0:=nbT hb0
    have h1:=nbT hb.1
    have h2:=Ty.beq_eq hb.2
    subst h0 h1 h2
    cases hd
    exact .inr ⟨List.mem_cons_self,by rw[<- h];exact hj,e,t',_,h.symm⟩
   ·simp only[hk,decide_false,cond_false] at h
    rcases yI (i:=i+1) hy h with h |⟨h1,h2,h3⟩
    ·exact .inl h
    ·exact .inr ⟨List.mem_cons_of_mem _ h1,h2,h3⟩
theorem yH{H:Hp}:∀{i:Nat}{l:List Sh}{svs:List SV}{x:wM l}{k:Nat}{v:SV},extL H l svs=some x->pP i l svs k=some v ->
  (∃j e t m,v = .own j/\H j=some (.row e t m))\/v = .nils
 |i,[],svs,x,k,v,_,h=>by cases svs<;>cases h
 |i,s::r,[],x,k,v,h,_=>by cases h
 |i,s::r,c::q,x,k,v,hx,h=>by
  simp only[extL] at hx
  split at hx<;>try (cases hx;done)
  rename_i d hd
  split at hx<;>try (cases hx;done)
  rename_i y hy
  cases s with
  |row e t=>
   simp only[pP,zX] at h
   by_cases hk:k=i
   ·simp only[hk,decide_true,cond_true,Option.some.injEq] at h
    subst h
    simp only[Sh.ext] at hd
    split at hd<;>try (cases hd;done)
    ·rename_i j
     split at hd<;>try (cases hd;done)
     rename_i e' t' l' hj
     exact .inl ⟨j,e',t',l',rfl,hj⟩
    ·exact .inr rfl
   ·simp only[hk,decide_false,cond_false] at h
    exact yH hy h
  |val t=>exact yH (i:=i+1) hy h
  |agg t=>exact yH (i:=i+1) hy h
  |ptr a b=>exact yH (i:=i+1) hy h
  |fn f=>exact yH (i:=i+1) hy h
  |clo f ks=>exact yH (i:=i+1) hy h
  |yld f=>exact yH (i:=i+1) hy h
  |arr t n=>exact yH (i:=i+1) hy h
  |adr t=>exact yH (i:=i+1) hy h
  |nils=>exact yH (i:=i+1) hy h
  |any=>exact yH (i:=i+1) hy h
  |oval t=>exact yH (i:=i+1) hy h
  |rowk k' e t=>exact yH (i:=i+1) hy h
theorem jN:∀{seen:List Nat}{i:Nat}{l:List Sh}{svs:List SV}{k j:Nat},yX seen l svs=true->pP i l svs k=some (.own j)->j ∉ seen
 |seen,i,[],svs,k,j,_,h=>by cases svs<;>cases h
 |seen,i,s::r,[],k,j,_,h=>by cases s<;>cases h
 |seen,i,.row e t::r,c::q,k,j,ho,h=>by
  simp only[pP,zX] at h
  by_cases hk:k=i
  ·simp only[hk,decide_true,cond_true,Option.some.injEq] at h
   subst h
   simp only[yX,Bool.and_eq_true,Bool.not_eq_true'] at ho
   intro hm
   rw[zO.2 hm] at ho
   exact absurd ho.1 (by simp)
  ·simp only[hk,decide_false,cond_false] at h
   cases c with
   |own j' =>
    simp only[yX,Bool.and_eq_true] at ho
    exact fun hm=>jN ho.2 h (List.mem_cons_of_mem _ hm)
   |_=>exact jN (seen:=seen) (l:=r) (svs:=q) ho h
 |seen,i,.val _::r,c::q,k,j,ho,h=>jN (seen:=seen) (i:=i+1) (l:=r) (svs:=q) ho h
 |seen,i,.agg _::r,c::q,k,j,ho,h=>jN (seen:=seen) (i:=i+1) (l:=r) (svs:=q) ho h
 |seen,i,.ptr _ _::r,c::q,k,j,ho,h=>jN (seen:=seen) (i:=i+1) (l:=r) (svs:=q) ho h
 |seen,i,.fn _::r,c::q,k,j,ho,h=>jN (seen:=seen) (i:=i+1) (l:=r) (svs:=q) ho h
 |seen,i,.clo _ _::r,c::q,k,j,ho,h=>jN (seen:=seen) (i:=i+1) (l:=r) (svs:=q) ho h
 |seen,i,.yld _::r,c::q,k,j,ho,h=>jN (seen:=seen) (i:=i+1) (l:=r) (svs:=q) ho h
 |seen,i,.arr _ _::r,c::q,k,j,ho,h=>jN (seen:=seen) (i:=i+1) (l:=r) (svs:=q) ho h
 |seen,i,.adr _::r,c::q,k,j,ho,h=>jN (seen:=seen) (i:=i+1) (l:=r) (svs:=q) ho h
 |seen,i,.nils::r,c::q,k,j,ho,h=>jN (seen:=seen) (i:=i+1) (l:=r) (svs:=q) ho h
 |seen,i,.any::r,c::q,k,j,ho,h=>jN (seen:=seen) (i:=i+1) (l:=r) (svs:=q) ho h
 |seen,i,.oval _::r,c::q,k,j,ho,h=>jN (seen:=seen) (i:=i+1) (l:=r) (svs:=q) ho h
 |seen,i,.rowk k' _ _::r,c::q,k,j,ho,h=>by
  simp only[yX,Bool.and_eq_true] at ho
  exact fun hm=>jN (i:=i+1) (l:=r) (svs:=q) ho.2 h (List.mem_cons_of_mem _ hm)
theorem pF{H:Hp}:∀{seen:List Nat}{l:List Sh}{svs:List SV}{x:wM l}{k:Nat},extL H l svs=some x->yX seen l svs=true->k∈yO l->k ∉ seen
 |seen,[],svs,x,k,_,_,h=>by cases h
 |seen,s::r,[],x,k,hx,_,_=>by cases hx
 |seen,s::r,c::q,x,k,hx,ho,h=>by
  simp only[extL] at hx
  split at hx<;>try (cases hx;done)
  split at hx<;>try (cases hx;done)
  rename_i y hy
  cases s with
  |rowk k' e t=>
   simp only[yX,Bool.and_eq_true,Bool.not_eq_true'] at ho
   rcases List.mem_cons.1 h with rfl |h
   ·intro hm
    rw[zO.2 hm] at ho
    exact absurd ho.1 (by simp)
   ·exact fun hm=>pF hy ho.2 h (List.mem_cons_of_mem _ hm)
  |row e t=>
   cases c with
   |own j' =>
    simp only[yX,Bool.and_eq_true] at ho
    exact fun hm=>pF (l:=r) hy ho.2 h (List.mem_cons_of_mem _ hm)
   |_=>exact pF (seen:=seen) (l:=r) hy ho h
  |_=>exact pF (seen:=seen) (l:=r) hy ho h
theorem pE{H:Hp}:∀{seen:List Nat}{i:Nat}{l:List Sh}{svs:List SV}{x:wM l}{k j:Nat},extL H l svs=some x->yX seen l svs=true->pP i l svs k=some (.own j)->j ∉ yO l
 |seen,i,[],svs,x,k,j,_,_,h=>by cases svs<;>cases h
 |seen,i,s::r,[],x,k,j,hx,_,_=>by cases hx
 |seen,i,s::r,c::q,x,k,j,hx,ho,h=>by
  simp only[extL] at hx
  split at hx<;>try (cases hx;done)
  split at hx<;>try (cases hx;done)
  rename_i y hy
  cases s with
  |rowk k' e t=>
   simp only[yX,Bool.and_eq_true,Bool.not_eq_true'] at ho
   intro hm
   rcases List.mem_cons.1 hm with rfl |hm
   ·exact jN (i:=i+1) (l:=r) (svs:=q) ho.2 h List.mem_cons_self
   ·exact pE (i:=i+1) (l:=r) hy ho.2 h hm
  |row e t=>
   simp only[pP,zX] at h
   by_cases hk:k=i
   ·simp only[hk,decide_true,cond_true,Option.some.injEq] at h
    subst h
    simp only[yX,Bool.and_eq_true] at ho
    exact fun hm=>pF (l:=r) hy ho.2 hm List.mem_cons_self
   ·simp only[hk,decide_false,cond_false] at h
    cases c with
    |own j' =>
     simp only[yX,Bool.and_eq_true] at ho
     exact pE (i:=i+1) (l:=r) hy ho.2 h
    |_=>exact pE (seen:=seen) (i:=i+1) (l:=r) hy ho h
  |_=>exact pE (seen:=seen) (i:=i+1) (l:=r) hy ho h
theorem vF:∀{seen:List Nat}{i:Nat}{l:List Sh}{svs:List SV}{k k' j:Nat},yX seen l svs=true->pP i l svs k=some (.own j)->pP i l svs k'=some (.own j)->k=k'
 |seen,i,[],svs,k,k',j,_,h,_=>by cases svs<;>cases h
 |seen,i,s::r,[],k,k',j,_,h,_=>by cases s<;>cases h
 |seen,i,.row e t::r,c::q,k,k',j,ho,h,h' =>by
  simp only[pP,zX] at h h'
  by_cases hk:k=i
  ·by_cases hk' : k'=i
   ·rw[hk,hk']
   ·simp only[hk,hk',decide_true,cond_true,decide_false,cond_false,Option.some.injEq] at h h'
    subst h
    simp only[yX,Bool.and_eq_true] at ho
    exact absurd (by simp) (jN ho.2 h')
  ·by_cases hk' : k'=i
   ·simp only[hk,hk',decide_true,cond_true,decide_false,cond_false,Option.some.injEq] at h h'
    subst h'
    simp only[yX,Bool.and_eq_true] at ho
    exact absurd (by simp) (jN ho.2 h)
   ·simp only[hk,hk',decide_false,cond_false] at h h'
    cases c with
    |own j' =>
     simp only[yX,Bool.and_eq_true] at ho
     exact vF ho.2 h h'
    |_=>exact vF (seen:=seen) (l:=r) (svs:=q) ho h h'
 |seen,i,.val _::r,c::q,k,k',j,ho,h,h' =>vF (seen:=seen) (i:=i+1) (l:=r) (svs:=q) ho h h'
 |seen,i,.agg _::r,c::q,k,k',j,ho,h,h' =>vF (seen:=seen) (i:=i+1) (l:=r) (svs:=q) ho h h'
 |seen,i,.ptr _ _::r,c::q,k,k',j,ho,h,h' =>vF (seen:=seen) (i:=i+1) (l:=r) (svs:=q) ho h h'
 |seen,i,.fn _::r,c::q,k,k',j,ho,h,h' =>vF (seen:=seen) (i:=i+1) (l:=r) (svs:=q) ho h h'
 |seen,i,.clo _ _::r,c::q,k,k',j,ho,h,h' =>vF (seen:=seen) (i:=i+1) (l:=r) (svs:=q) ho h h'
 |seen,i,.yld _::r,c::q,k,k',j,ho,h,h' =>vF (seen:=seen) (i:=i+1) (l:=r) (svs:=q) ho h h'
 |seen,i,.arr _ _::r,c::q,k,k',j,ho,h,h' =>vF (seen:=seen) (i:=i+1) (l:=r) (svs:=q) ho h h'
 |seen,i,.adr _::r,c::q,k,k',j,ho,h,h' =>vF (seen:=seen) (i:=i+1) (l:=r) (svs:=q) ho h h'
 |seen,i,.nils::r,c::q,k,k',j,ho,h,h' =>vF (seen:=seen) (i:=i+1) (l:=r) (svs:=q) ho h h'
 |seen,i,.any::r,c::q,k,k',j,ho,h,h' =>vF (seen:=seen) (i:=i+1) (l:=r) (svs:=q) ho h h'
 |seen,i,.oval _::r,c::q,k,k',j,ho,h,h' =>vF (seen:=seen) (i:=i+1) (l:=r) (svs:=q) ho h h'
 |seen,i,.rowk _ _ _::r,c::q,k,k',j,ho,h,h' =>by
  simp only[yX,Bool.and_eq_true] at ho
  exact vF (i:=i+1) (l:=r) (svs:=q) ho.2 h h'
def renE(E:En)(src:Nat->Option SV):En :=
 ⟨fun k=>match src k with
  |some (.own j)=>E.ρ j
  |_=>E.ρ k, fun k=>match src k with
  |some (.own j)=>E.sv j
  |some .nils=>.slice none 0 0
  |_=>E.sv k,E.I,E.rc⟩
theorem wD{E1 E2:En}{U U2:Nat->Bool}{w w0:World}{M:Nat->Prop}{H H1:Hp}{bs:List Nat}(hs1:HSat w0 M E1 U H1 w) (hI:E2.I=E1.I):∀(i:Nat){l:List Sh}{svs:List SV}{x:wM l}{zM:List Value},
  extL H l svs=some x->(∀k∈frzL l svs,H1 k=qU (H k))->(∀k v,pP i l svs k=some v->U2 k=true/\((∃j,v = .own j/\E2.sv k=E1.sv j)\/(v = .nils/\E2.sv k = .slice none 0 0))) ->
  (∀k∈bs,U2 k=true/\E2.ρ k=E1.ρ k/\E2.sv k=E1.sv k)->w_ bs l=true->zA E1 U w svs zM->zA E2 U2 w (z_ i l x) zM
 |i,[],[],_,_,_,_,_,_,_,hr=>by unfold zA at *;exact hr
 |i,[],_::_,_,_,h,_,_,_,_,_=>by cases h
 |i,_::_,[],_,_,h,_,_,_,_,_=>by cases h
 |i,s::r,c::q,x,zM,h,hf,hsrc,hb,hp,hr=>by
  simp only[extL] at h
  split at h<;>try (cases h;done)
  rename_i d hd
  split at h<;>try (cases h;done)
  rename_i y hy
  cases h
  unfold zA at hr
  obtain⟨v,u,e,hv,hu⟩:=hr
  subst e
  cases s with
  |val t=>
   refine zA.cons (Sh.dec_ok (s:=.val t) hI i hd (vw_rep hs1 c v (fun k hk=>hf k (List.mem_append_left _ hk)) hv)) ?_
   exact wD hs1 hI (i+1) hy (fun k hk=>hf k (List.mem_append_right _ hk)) (fun k v hk=>hsrc k v hk) hb hp hu
  |agg t=>
   refine zA.cons (Sh.dec_ok (s:=.agg t) hI i hd (vw_rep hs1 c v (fun k hk=>hf k (List.mem_append_left _ hk)) hv)) ?_
   exact wD hs1 hI (i+1) hy (fun k hk=>hf k (List.mem_append_right _ hk)) (fun k v hk=>hsrc k v hk) hb hp hu
  |ptr a b=>
   simp only[w_,Bool.and_eq_true] at hp
   refine zA.cons ?_ (wD hs1 hI (i+1) hy hf (fun k v hk=>hsrc k v hk) hb hp.2 hu)
   simp only[Sh.ext] at hd
   split at hd<;>try (cases hd;done)
   rename_i k' o'
   split at hd<;>try (cases hd;done)
   rename_i he
   simp only[Bool.and_eq_true] at he
   have e1:=nbT he.1
   have e2:=nbT he.2
   subst e1 e2
   obtain⟨hb1,hb2,_⟩:=hb a (zO.1 hp.1)
   show Rep E2 U2 w (.ptr a b) v
   unfold Rep at hv ⊢
   exact⟨hb1,by rw[hb2];exact hv.2⟩
  |row e t=>
   refine zA.cons ?_ (wD hs1 hI (i+1) hy hf (fun k v hk=>?_) hb hp hu)
   ·obtain⟨h1,h2⟩:=hsrc i c (by simp[pP,Nat.beq_refl])
    show Rep E2 U2 w (.own i) v
    rcases h2 with⟨j,rfl,h2⟩ |⟨rfl,h2⟩
    ·unfold Rep at hv ⊢
     exact⟨h1,by rw[h2];exact hv.2.1,hv.2.2⟩
    ·unfold Rep at hv ⊢
     exact⟨h1,by rw[h2];exact hv,by rw[hv];exact⟨_,_,_,rfl⟩⟩
   ·refine hsrc k v ?_
    have:=qX hk
    have hne:k≠i:=by omega
    simp only[pP,zX,hne,decide_false,cond_false]
    exact hk
  |fn f=>
   refine zA.cons ?_ (wD hs1 hI (i+1) hy hf (fun k v hk=>hsrc k v hk) hb hp hu)
   simp only[Sh.ext] at hd
   split at hd<;>try (cases hd;done)
   split at hd<;>try (cases hd;done)
   rename_i g he
   have e1:=nbT he
   subst e1
   show Rep E2 U2 w (.fn f []) v
   exact zI hI (.fn f []) v rfl hv
  |clo f ks=>
   simp only[w_,Bool.and_eq_true,List.all_eq_true] at hp
   refine zA.cons ?_ (wD hs1 hI (i+1) hy hf (fun k v hk=>hsrc k v hk) hb hp.2 hu)
   simp only[Sh.ext] at hd
   split at hd<;>try (cases hd;done)
   split at hd<;>try (cases hd;done)
   rename_i g cs he
   simp only[Bool.and_eq_true] at he
   have e1:=nbT he.1
   subst e1
   show Rep E2 U2 w (.fn f (encK ks)) v
   unfold Rep at hv ⊢
   obtain⟨vs,hv1,hv2⟩:=hv
   exact⟨vs,hv1,ptrsEq_rep he.2 (fun p hp' =>⟨(hb p.1 (zO.1 (hp.1 p hp'))).1,(hb p.1 (zO.1 (hp.1 p hp'))).2.1⟩) hv2⟩
  |yld a=>
   simp only[w_,Bool.and_eq_true] at hp
   refine zA.cons ?_ (wD hs1 hI (i+1) hy hf (fun k v hk=>hsrc k v hk) hb hp.2 hu)
   simp only[Sh.ext] at hd
   split at hd<;>try (cases hd;done)
   rename_i k'
   split at hd<;>try (cases hd;done)
   rename_i he
   have e1:=nbT he
   subst e1
   obtain⟨hb1,hb2,_⟩:=hb a (zO.1 hp.1)
   show Rep E2 U2 w (.yld a) v
   unfold Rep at hv ⊢
   exact⟨hb1,by rw[hb2];exact hv.2⟩
  |arr t n=>
   refine zA.cons ?_ (wD hs1 hI (i+1) hy hf (fun k v hk=>hsrc k v hk) hb hp hu)
   simp only[Sh.ext] at hd
   split at hd<;>try (cases hd;done)
   rename_i t' n' l'
   split at hd<;>try (cases hd;done)
   rename_i he
   have e1:=Ty.beq_eq he.1
   have e2:=nbT he.2
   subst e1 e2
   cases hd
   show Rep E2 U2 w (.arr t' n' l') v
   exact zI hI (.arr t' n' l') v rfl hv
  |adr t=>exact zA.cons (Sh.dec_ok (s:=.adr t) hI i hd hv) (wD hs1 hI (i+1) hy hf (fun k v hk=>hsrc k v hk) hb hp hu)
  |nils=>
   refine zA.cons ?_ (wD hs1 hI (i+1) hy hf (fun k v hk=>hsrc k v hk) hb hp hu)
   simp only[Sh.ext] at hd
   split at hd<;>try (cases hd;done)
   show Rep E2 U2 w .nils v
   exact zI hI .nils v rfl hv
  |any=>
   refine zA.cons ?_ (wD hs1 hI (i+1) hy hf (fun k v hk=>hsrc k v hk) hb hp hu)
   show Rep E2 U2 w .any v
   unfold Rep;trivial
  |oval t=>simp[Sh.ext] at hd
  |rowk a e t=>
   simp only[w_,Bool.and_eq_true] at hp
   refine zA.cons ?_ (wD hs1 hI (i+1) hy hf (fun k v hk=>hsrc k v hk) hb hp.2 hu)
   simp only[Sh.ext] at hd
   split at hd<;>try (cases hd;done)
   rename_i j
   split at hd<;>try (cases hd;done)
   rename_i hb0
   have h0:=nbT hb0
   subst h0
   obtain⟨hb1,_,hb3⟩:=hb a (zO.1 hp.1)
   show Rep E2 U2 w (.own a) v
   unfold Rep at hv ⊢
   exact⟨hb1,by rw[hb3];exact hv.2.1,hv.2.2⟩
theorem ofCells_arr{u:Ty}{n:Nat}{l:List u.den}:∀(t:Ty)(r q:List SV)(d:t.den),t.vO (.arr u n l::r)=some (d,q)->q = .arr u n l::r
 |.int _,_,_,_,h=>by simp[Ty.vO] at h
 |.bool,_,_,_,h=>by simp[Ty.vO] at h
 |.str,_,_,_,h=>by simp[Ty.vO] at h
 |.unit,r,q,d,h=>by simp only[Ty.vO,Option.some.injEq] at h;exact (congrArg Prod.snd h).symm
 |.sl _,_,_,_,h=>by simp[Ty.vO] at h
 |.arr _ _,_,_,_,h=>by simp[Ty.vO] at h
 |.pair a b,r,q,d,h=>by
  simp only[Ty.vO] at h
  split at h<;>try (cases h;done)
  rename_i x r1 h1
  have e:=ofCells_arr a _ _ _ h1
  subst e
  split at h<;>try (cases h;done)
  rename_i y r2 h2
  cases h
  exact ofCells_arr b _ _ _ h2
theorem cells_plain:∀(t:Ty)(d:t.den),∀c∈t.cells d,jU c=false
 |.int _,_,c,h=>by simp[Ty.cells] at h;rw[h];rfl
 |.bool,_,c,h=>by simp[Ty.cells] at h;rw[h];rfl
 |.str,_,c,h=>by simp[Ty.cells] at h;rw[h];rfl
 |.unit,_,c,h=>by simp[Ty.cells] at h
 |.sl _,_,c,h=>by simp[Ty.cells] at h;rw[h];rfl
 |.arr e _,l,c,h=>by
  obtain⟨d,_,h2⟩:=List.mem_flatMap.1 (show c∈(show List e.den from l).flatMap e.cells from h)
  exact cells_plain e d c h2
 |.pair a b,d,c,h=>by
  simp only[Ty.cells,List.mem_append] at h
  rcases h with h |h
  ·exact cells_plain a _ c h
  ·exact cells_plain b _ c h
theorem headD_plain{l:List SV}(h:∀c∈l,jU c=false):jU (l.headD .any)=false:=by
 cases l with
 |nil=>rfl
 |cons c r=>exact h c (by simp)
theorem vw_arr(H:Hp)(u:Ty)(n:Nat)(l:List u.den):vw H (.arr u n l) = .arr u n l:=by unfold vw;rfl
theorem ext_mask{H:Hp}(i:Nat):∀{s:Sh}{v:SV}{d:s.den},s.ext H v=some d->jU (s.enc i d)=jU v
 |.val t,v,d,h=>by
  rw[show Sh.enc i (.val t) d=(t.cells d).headD .any from rfl,headD_plain (cells_plain t d)]
  cases v<;>try rfl
  rename_i u n l
  simp only[Sh.ext,vw_arr,Sh.dec] at h
  split at h<;>try (cases h;done)
  rename_i h1
  have:=ofCells_arr _ _ _ _ h1
  cases this
 |.agg t,v,d,h=>by
  cases v<;>try rfl
  rename_i u n l
  simp only[Sh.ext,vw_arr,Sh.dec] at h
  cases h
 |.ptr _ _,v,d,h=>by cases v<;>first |rfl |(simp[Sh.ext] at h)
 |.row _ _,v,d,h=>by cases v<;>first |rfl |(simp[Sh.ext] at h)
 |.fn _,v,d,h=>by cases v<;>first |rfl |(simp[Sh.ext] at h)
 |.clo _ _,v,d,h=>by cases v<;>first |rfl |(simp[Sh.ext] at h)
 |.yld _,v,d,h=>by cases v<;>first |rfl |(simp[Sh.ext] at h)
 |.arr _ _,v,d,h=>by cases v<;>first |rfl |(simp[Sh.ext] at h)
 |.nils,v,d,h=>by cases v<;>first |rfl |(simp[Sh.ext] at h)
 |.adr _,v,d,h=>by cases v<;>first |rfl |(simp[Sh.ext,Sh.dec] at h)
 |.rowk _ _ _,v,d,h=>by cases v<;>first |rfl |(simp[Sh.ext] at h)
 |.oval _,v,d,h=>by simp[Sh.ext] at h
 |.any,v,d,h=>by
  cases hv:jU v
  ·rfl
  ·simp[Sh.ext,hv] at h
theorem extL_mask{H:Hp}:∀(i:Nat){l:List Sh}{svs:List SV}{x:wM l},extL H l svs=some x->(z_ i l x).map jU=svs.map jU
 |_,[],[],_,_=>rfl
 |_,[],_::_,_,h=>by cases h
 |_,_::_,[],_,h=>by cases h
 |i,s::r,c::q,x,h=>by
  simp only[extL] at h
  split at h<;>try (cases h;done)
  rename_i d hd
  split at h<;>try (cases h;done)
  rename_i y hy
  cases h
  rw[z_,List.map_cons,List.map_cons,ext_mask i hd,extL_mask (i+1) hy]
theorem lookT_rep{E:En}{U:Nat->Bool}{w:World}(f:Nat->Value) (t:Nat):∀{names:List Nat}{svs:List SV}{rest:List Value},zA E U w svs (names.map f++rest)->Rep E U w (lookT names svs t) (f t)
 | [],svs,_,_=>by unfold lookT Rep;trivial
 |n::ns,[],_,h=>by unfold zA at h;cases h
 |n::ns,c::q,rest,h=>by
  rw[List.map_cons,List.cons_append] at h
  unfold zA at h
  obtain⟨v,r,e,h1,h2⟩:=h
  cases e
  simp only[lookT,zX]
  by_cases ht:t=n
  ·subst ht;simpa using h1
  ·simp only[ht,decide_false,cond_false]
   exact lookT_rep f t h2
theorem grabB_rep{E1 E2:En}{U U2:Nat->Bool}{w w0:World}{M:Nat->Prop}{H:Hp}(hs:HSat w0 M E1 U H w):∀{bs:List (Nat × Nat)}{q:List SV},grabB bs H=some q ->
  ∃zM,zA E1 U w q zM/\∀es,zA E2 U2 w es zM->es.map jU=q.map jU->∀k cs,lookB bs es k=some cs->k∈bs.map (·.1)/\(∃cs0,H k=some (.box cs0))/\∃vs ty,w.heap[E1.ρ k]? = some (.cells (List.toArray (zP cs vs)) ty (0,0))/\zA E2 U2 w cs vs
 | [],q,h=>by
  cases h
  exact⟨[],zA.nil,fun es _ _ k cs hk=>by cases hk⟩
 |(k0,n)::r,q,h=>by
  simp only[grabB] at h
  split at h<;>try (cases h;done)
  rename_i cs0 hk0
  split at h<;>try (cases h;done)
  rename_i hn
  split at h<;>try (cases h;done)
  rename_i q' hq
  cases h
  obtain⟨_,vs,ty,hh,hr⟩:=hs.ob k0 _ hk0
  obtain⟨zM,h1,h2⟩:=grabB_rep (E2:=E2) (U2:=U2) hs hq
  have hl:vs.length=n:=by rw[hr.length];exact nbT hn
  refine⟨vs++zM,hr.append h1,fun es he hmask k cs hk=>?_⟩
  have hnl:=nbT hn
  simp only[lookB,zX] at hk
  by_cases e:k=k0
  ·subst e
   simp only[decide_true,cond_true,Option.some.injEq] at hk
   subst hk
   have hm1:(es.take n).map jU=cs0.map jU:=by
    rw[List.map_take,hmask,List.map_append,List.take_left' (by rw[List.length_map];exact hnl)]
   refine⟨by simp,⟨_,hk0⟩,vs,ty,by rw[wI hm1];exact hh,?_⟩
   have:=he.take n
   rw[<- hl,List.take_left,hl] at this
   exact this
  ·simp only[e,decide_false,cond_false] at hk
   have:=he.drop n
   rw[<- hl,List.drop_left,hl] at this
   obtain⟨h3,h4⟩:=h2 _ this (by rw[List.map_drop,hmask,List.map_append,List.drop_left' (by rw[List.length_map];exact hnl)]) k cs hk
   exact⟨List.mem_cons_of_mem _ h3,h4⟩
theorem Lay.sat{B:Bs}{L:Lay}{u0:Nat->Bool}{S:St}{x:L.den}{a:Act}{w:World}(hL:L.ok u0=true) (hu:∀k,B.U0 k=true->u0 k=true) (hx:L.ext B.n S=some x) (hs:Sat B S a w):Sat B (L.st u0 x) a w:=by
 obtain⟨E,hs⟩:=hs
 unfold Lay.ext at hx
 split at hx<;>try (cases hx;done)
 rename_i q hq
 simp only at hx
 split at hx<;>try (cases hx;done)
 rename_i hok
 rw[Bool.and_eq_true] at hok
 obtain⟨hok,hrok⟩:=hok
 generalize hsv:(L.slots.map fun x=>S.eval B.n (.tmp x.1))++q=svs at hok hx
 simp only[Lay.ok,Bool.and_eq_true,List.all_eq_true,Bool.not_eq_true'] at hL
 obtain⟨hp,hids⟩:=hL
 obtain⟨E1,hle1,hs1,hfr⟩:=hs.heap.wC (frzL L.shs svs) E S.heap
 generalize hH1:(fun k=>if k∈frzL L.shs svs then qU (S.heap k) else S.heap k)=H1 at hs1
 have hH1' : ∀k,H1 k=if k∈frzL L.shs svs then qU (S.heap k) else S.heap k:=fun k=>by rw[<- hH1]
 have hbox:∀k cs,S.heap k=some (.box cs)->H1 k=some (.box cs):=fun k cs h=>by
  rw[hH1',h];split<;>rfl
 have hq1:grabB L.kG H1=some q:=by
  revert hq
  generalize L.kG=bs
  intro hq
  clear hx hsv hok hrok
  induction bs generalizing q with
  |nil=>exact hq
  |cons b r ih=>
   obtain⟨k0,n⟩:=b
   simp only[grabB] at hq ⊢
   split at hq<;>try (cases hq;done)
   rename_i cs0 hk0
   split at hq<;>try (cases hq;done)
   rename_i hn
   split at hq<;>try (cases hq;done)
   rename_i q' hq'
   rw[hbox _ _ hk0]
   simp only[hn,if_true,ih _ hq']
   exact hq
 generalize hsrcE:pP L.rb L.shs svs=src
 have hnot:∀k,usd u0 L.ids k=true->src k=none:=fun k hk=>by
  cases hsk:src k with
  |none=>rfl
  |some v=>
   rw[<- hsrcE] at hsk
   have:=hids k (yF hsk)
   rw[hk] at this;cases this
 let E2:=renE E1 src
 let U2:=usd u0 (L.ids++jC L.rb L.shs)
 have hren:∀k,usd u0 L.ids k=true->E2.ρ k=E1.ρ k/\E2.sv k=E1.sv k:=fun k hk=>by
  have:=hnot k hk
  simp only[E2,renE,this]
  exact⟨trivial,trivial⟩
 have hbs:∀k∈L.ids,U2 k=true/\E2.ρ k=E1.ρ k/\E2.sv k=E1.sv k:=fun k hk=>by
  have hm:usd u0 L.ids k=true:=usd_r hk
  exact⟨usd_r (List.mem_append_left _ hk),hren k hm⟩
 have hfix:∀k,k∈yO L.shs->k∈L.ids:=fun k hk=>List.mem_append_right _ hk
 obtain⟨bvals,hb1,hb2⟩:=grabB_rep (E2:=E2) (U2:=U2) hs1 hq1
 have hslots:zA E1 S.used w (L.slots.map fun x=>S.eval B.n (.tmp x.1)) (L.slots.map fun x=>a.eval (.tmp x.1)):=by
  have:=zA.mono hle1 _ _ (hs.evalL (L.slots.map fun x=>.tmp x.1))
  simpa[List.map_map,Function.comp_def] using this
 have hall:=hslots.append hb1
 rw[hsv] at hall
 have hrep:zA E2 U2 w (z_ L.rb L.shs x) ((L.slots.map fun x=>a.eval (.tmp x.1))++bvals):=by
  refine wD (E2:=E2) (U2:=U2) hs1 rfl L.rb hx (fun k hk=>by rw[hH1',if_pos hk]) (fun k v hk=>?_) hbs hp hall
  refine⟨usd_r (List.mem_append_right _ (yF hk)),?_⟩
  have hkind:=yH hx hk
  rw[hsrcE] at hk
  rcases hkind with⟨j,e,t,m,rfl,_⟩ |rfl
  ·exact .inl ⟨j,rfl,by simp only[E2,renE,hk]⟩
  ·exact .inr ⟨rfl,by simp only[E2,renE,hk]⟩
 have hnames:(L.slots.map fun x=>a.eval (.tmp x.1))=(L.slots.map (·.1)).map fun t=>a.tmps.getD t undef:=by
  rw[List.map_map];rfl
 have hbsz:∀k,k∈L.kG.map (·.1)->k∈L.ids:=fun k hk=>by
  unfold Lay.kG at hk;rw[List.map_map] at hk;exact List.mem_append_left _ (List.mem_append_left _ hk)
 have hbe:=hb2 ((z_ L.rb L.shs x).drop L.slots.length) (by
  have:=hrep.drop L.slots.length
  rw[List.drop_left' (by simp)] at this
  exact this) (by rw[List.map_drop,extL_mask L.rb hx,<- hsv,List.map_append,List.drop_left' (by simp)])
 -- what is in the new heap
 have hrow:∀k o,wB L.rb L.shs x k=some o->(∃e t m v,o = .row e t m/\src k=some v/\((∃j,v = .own j/\H1 j=some (.row e t m))\/(v = .nils/\m=[])))\/(k∈yO L.shs/\H1 k=some o/\∃e t m,o = .row e t m):=fun k o hk=>by
  rcases yI hx hk with⟨e,t,m,v,h1,h2,h3⟩ |⟨h1,h2,h3⟩
  case inr=>
   refine .inr ⟨h1,?_,h3⟩
   rw[hH1',if_neg (pF hx hok h1)]
   exact h2
  refine .inl ⟨e,t,m,v,h1,by rw[<- hsrcE];exact h2,?_⟩
  rcases h3 with⟨j,rfl,hj⟩ |h3
  ·refine .inl ⟨j,rfl,?_⟩
   rw[hH1',if_neg (jN hok h2)]
   exact hj
  ·exact .inr h3
 let H2:Hp:=(L.st u0 x).heap
 have hH2:∀k o,H2 k=some o->(∃cs,o = .box cs/\lookB L.kG ((z_ L.rb L.shs x).drop L.slots.length) k=some cs)\/lookR L.recs k=some o\/wB L.rb L.shs x k=some o:=fun k o hk=>by
  replace hk:(match lookB L.kG ((z_ L.rb L.shs x).drop L.slots.length) k with
   |some cs=>some (.box cs)
   |none=>match lookR L.recs k with
    |some o=>some o
    |none=>wB L.rb L.shs x k)=some o:=hk
  split at hk
  ·rename_i cs hcs
   cases hk
   exact .inl ⟨cs,rfl,hcs⟩
  ·split at hk
   ·rename_i o' ho'
    cases hk
    exact .inr (.inl ho')
   ·exact .inr (.inr hk)
 have hrec:∀k o,lookR L.recs k=some o->k∈L.ids/\∃p,o = .rnd p/\H1 k=some (.rnd p):=by
  have key:∀rs,recsOk rs S.heap=true->∀k o,lookR rs k=some o->k∈rs.map (·.1)/\∃p,o = .rnd p/\H1 k=some (.rnd p):=by
   intro rs
   induction rs with
   |nil=>intro _ k o h;cases h
   |cons b r ih=>
    obtain⟨j,p⟩:=b
    intro hok k o h
    simp only[recsOk,Bool.and_eq_true] at hok
    simp only[lookR,zX] at h
    by_cases e:k=j
    ·subst e
     simp only[decide_true,cond_true,Option.some.injEq] at h
     refine⟨by simp,p,h.symm,?_⟩
     have h1:=hok.1
     split at h1
     ·rename_i q hq
      rw[hH1',hq,RS.beq_eq h1]
      split<;>rfl
     ·cases h1
    ·simp only[e,decide_false,cond_false] at h
     obtain⟨h1,h2⟩:=ih hok.2 k o h
     exact⟨List.mem_cons_of_mem _ h1,h2⟩
  intro k o h
  obtain⟨h1,h2⟩:=key _ hrok k o h
  exact⟨List.mem_append_left _ (List.mem_append_right _ h1),h2⟩
 have hlive:∀k,jF E2 H2 k->∃k',jF E1 H1 k'/\E2.ρ k=E1.ρ k'/\((k'=k/\((∀e t m,H1 k'≠some (.row e t m))\/k∈yO L.shs))\/(src k=some (.own k')/\∃e t m,H1 k'=some (.row e t m))):=by
  rintro k ⟨o,ho,hl⟩
  rcases hH2 k o ho with⟨cs,rfl,hcs⟩ |hr |hr
  ·obtain⟨h1,⟨cs0,h2⟩,_⟩:=hbe k cs hcs
   replace h1:=hbsz k h1
   exact⟨k,⟨_,h2,trivial⟩,(hbs k h1).2.1,.inl ⟨rfl,.inl fun e t m he=>by rw[h2] at he;cases he⟩⟩
  ·obtain⟨h1,p,rfl,h2⟩:=hrec k o hr
   exact⟨k,⟨_,h2,trivial⟩,(hbs k h1).2.1,.inl ⟨rfl,.inl fun e t m he=>by rw[h2] at he;cases he⟩⟩
  ·rcases hrow k o hr with⟨e,t,m,v,rfl,hsk,h3⟩ |⟨h1,h2,e,t,m,rfl⟩
   case inr=>
    have hb:=hbs k (hfix k h1)
    refine⟨k,⟨_,h2,?_⟩,hb.2.1,.inl ⟨rfl,.inr h1⟩⟩
    have hl' : E2.sv k ≠ .slice none 0 0:=hl
    rw[hb.2.2] at hl'
    exact hl'
   rcases h3 with⟨j,rfl,hj⟩ |⟨rfl,rfl⟩
   ·refine⟨j,⟨_,hj,?_⟩,by simp only[E2,renE,hsk],.inr ⟨hsk,e,t,m,hj⟩⟩
    have hl' : E2.sv k ≠ .slice none 0 0:=hl
    simp only[E2,renE,hsk] at hl'
    exact hl'
   ·have hl' : E2.sv k ≠ .slice none 0 0:=hl
    simp only[E2,renE,hsk] at hl'
    exact absurd rfl hl'
 refine⟨E2,⟨hs.size,hs.defers.step hs.heap (Frm.refl w _) (fun b hb=>(hfr b hb).imp_right .inl),fun t ht=>?_,⟨fun k o hk=>?_,fun j k hj hk he=>?_,fun k hk=>?_,hs1.lt,fun k hk=>?_,hs1.frame⟩,⟨fun k hk=>?_,fun k hk=>?_,fun k hk=>?_,fun b hb=>?_,fun b hb=>?_,fun k hk=>?_⟩,fun b hb=>?_⟩⟩
 ·show Rep E2 U2 w (lookT (L.slots.map (·.1)) (z_ L.rb L.shs x) t) _
  rw[hnames] at hrep
  exact lookT_rep (fun t=>a.tmps.getD t undef) t hrep
 ·rcases hH2 k o hk with⟨cs,rfl,hcs⟩ |hr |hr
  ·obtain⟨h1,_,vs,ty,h2,h3⟩:=hbe k cs hcs
   replace h1:=hbsz k h1
   obtain⟨h4,h5,_⟩:=hbs k h1
   exact⟨h4,vs,ty,by rw[h5];exact h2,h3⟩
  ·obtain⟨h1,p,rfl,h2⟩:=hrec k o hr
   obtain⟨h4,h5,_⟩:=hbs k h1
   refine⟨h4,?_⟩
   show w.heap[E2.ρ k]? = some (E1.rc k p)/\∃r,E1.rc k p = .loop r
   rw[h5]
   exact (hs1.ob k _ h2).2
  ·rcases hrow k o hr with⟨e,t,m,v,rfl,hsk,h3⟩ |⟨h1,h2,e,t,m,rfl⟩
   case inr=>
    obtain⟨h4,h5,h6⟩:=hbs k (hfix k h1)
    obtain⟨_,xs,ho,hf,hv⟩:=hs1.ob k _ h2
    exact⟨h4,xs,by rw[h6];exact ho,hf,by rw[h5,h6];exact hv⟩
   refine⟨usd_r (List.mem_append_right _ (yF (by rw[hsrcE];exact hsk))),?_⟩
   rcases h3 with⟨j,rfl,hj⟩ |⟨rfl,rfl⟩
   ·obtain⟨_,xs,ho,hf,hv⟩:=hs1.ob j _ hj
    have e1:E2.sv k=E1.sv j:=by simp only[E2,renE,hsk]
    have e2:E2.ρ k=E1.ρ j:=by simp only[E2,renE,hsk]
    refine⟨xs,by rw[e1];exact ho,hf,by rw[e1,e2];exact hv⟩
   ·have e1:E2.sv k = .slice none 0 0:=by simp only[E2,renE,hsk]
    exact⟨[],by rw[e1];exact ownR_nil w e t.size,rfl,.inl e1⟩
 ·obtain⟨j',hj1,hj2,hj3⟩:=hlive j hj
  obtain⟨k',hk1,hk2,hk3⟩:=hlive k hk
  have:=hs1.inj j' k' hj1 hk1 (by rw[<- hj2,<- hk2];exact he)
  subst this
  rcases hj3 with⟨e1,h1⟩ |⟨e1,e,t,m,h1⟩
  ·rcases hk3 with⟨e2,_⟩ |⟨e2,_,_,_,h2⟩
   ·rw[<- e1,<- e2]
   ·rcases h1 with h1 |h1
    ·exact absurd h2 (h1 _ _ _)
    ·rw[<- hsrcE] at e2
     rw[<- e1] at h1
     exact absurd h1 (pE hx hok e2)
  ·rcases hk3 with⟨e2,h2⟩ |⟨e2,_⟩
   ·rcases h2 with h2 |h2
    ·exact absurd h1 (h2 _ _ _)
    ·rw[<- hsrcE] at e1
     rw[<- e2] at h2
     exact absurd h2 (pE hx hok e1)
   ·rw[<- hsrcE] at e1 e2
    exact vF hok e1 e2
 ·obtain⟨k',h1,h2,_⟩:=hlive k hk
  rw[h2]
  exact hs1.imm k' h1
 ·obtain⟨k',h1,h2,_⟩:=hlive k hk
  rw[h2]
  exact hs1.mine k' h1
 ·exact usd_l (hu k hk)
 ·rw[(hren k (usd_l (hu k hk))).1,hle1.rho k (hs.le.used k hk)]
  exact hs.le.rho k hk
 ·rw[(hren k (usd_l (hu k hk))).2,hle1.sv k (hs.le.used k hk)]
  exact hs.le.sv k hk
 ·exact hle1.imm b (hs.le.imm b hb)
 ·exact hs.le.heap b hb
 ·show E1.rc k=_
  rw[hle1.rc k (hs.le.used k hk)]
  exact hs.le.rc k hk
 ·rcases hfr b hb with h |⟨k,hk,he⟩
  ·exact hs.fresh b h
  ·rcases hs.heap.mine k hk with h |h
   ·exact .inr (.inl (he ▸ h))
   ·exact .inr (.inr (he ▸ h))
end Go.Sx
namespace Go.Sx
open Go.RowKit
theorem kW{p:Nat->Prop}(h:∃k,p k):∃k,p k/\∀j,p j->k<=j:=by
 obtain⟨k,hk⟩:=h
 induction k using Nat.strongRecOn with
 |_ k ih=>
  by_cases hj:∃j,j<k/\p j
  ·obtain⟨j,hj,hp⟩:=hj
   exact ih j hj hp
  ·exact⟨k,hk,fun j hp=>Nat.le_of_not_lt fun hlt=>hj ⟨j,hlt,hp⟩⟩
theorem wpIn_loop_ex{F:Fence}{n:Nat}{P:Program}{Q:Exit->Act->World->Prop}{a:Act}{w:World}{c:Code}{α:Type}(J:α->Act->World->Prop) (μ:α->Nat) (x:α) (h0:J x a w)
  (round:∀x a w,J x a w->c.wpIn F n P (Exit.then (fun a' w' =>∃y,J y a' w'/\μ y<μ x) Q) a w):(Code.loop c).wpIn F n P Q a w:=by
 classical
 let p:Act->World->Nat->Prop:=fun a w k=>∃x,J x a w/\μ x=k
 let m:Act->World->Nat:=fun a w=>if h:∃k,p a w k then Classical.choose (kW h) else 0
 refine wpIn_loop (fun a w=>∃x,J x a w) m ⟨x,h0⟩ fun a w hx=>?_
 have hp:∃k,p a w k:=by obtain⟨x,hx⟩:=hx;exact⟨μ x,x,hx,rfl⟩
 have hm:m a w=Classical.choose (kW hp):=dif_pos hp
 obtain⟨⟨x,hx,hk⟩,_⟩:=Classical.choose_spec (kW hp)
 refine wpIn_mono (round x a w hx) ?_
 intro e a' w' h
 cases e with
 |normal=>
  obtain⟨y,hy,hlt⟩:=h
  refine⟨⟨y,hy⟩,?_⟩
  have hp' : ∃k,p a' w' k:=⟨μ y,y,hy,rfl⟩
  have hm' : m a' w'=Classical.choose (kW hp'):=dif_pos hp'
  rw[hm,hm',<- hk]
  exact Nat.lt_of_le_of_lt ((Classical.choose_spec (kW hp')).2 _ ⟨y,hy,rfl⟩) hlt
 |_=>exact h
def loopBody{P:Program}(cx:List (GC P)) (lp:Nat->Option jS) (ys:List YH) (n:Nat) (u0:Nat->Bool) (body:Code) (L:Lay) (xl:Exit->St->Option Lay) (x:L.den):Tree (L.den ⊕ (Exit × St)) :=
 jR cx lp ys n 0 body (L.st u0 x) (fun _=>none) fun e S _=>match e with
  |.normal=>match L.ext n S with
   |some y=>.leaf (.inl y)
   |none=>.fail 20
  |e=>match xl e S with
   |some L' =>match L'.ext n S with
    |some z=>.leaf (.inr (e,L'.st u0 z))
    |none=>.fail 21
   |none=>.fail 22
def loopRun(n:Nat)(L:Lay)(pre:L.den->Option Prop)(out:L.den->Tree (Exit × St)):jS:=fun S=>match L.ext n S with
 |some x=>some (pre x,out x)
 |none=>none
def roundQ{L:Lay}(inv:L.den->Prop) (μ:L.den->Nat) (out:L.den->Tree (Exit × St)) (Q:Exit × St->Prop) (x:L.den):L.den ⊕ (Exit × St)->Prop
 |.inl y=>(inv y/\μ y<μ x)/\(out y).holds Q
 |.inr p=>Q p
theorem loop_ok{P:Program}(hm:P.follows .mixedOrders=true) {cx:List (GC P)}{lp:Nat->Option jS}{ys:List YH}{n:Nat}{r0:Option Nat}{u0:Nat->Bool}{body:Code}{L:Lay}{xl:Exit->St->Option Lay}{pre:L.den->Option Prop}{out:L.den->Tree (Exit × St)}
  (inv:L.den->Prop) (μ:L.den->Nat) (hL:L.ok u0=true) (hxl:∀e S L',xl e S=some L'->L'.ok u0=true) (hl:wO P ys n r0 u0 lp 0 body)
  (hpre:∀x,ndP (pre x)->inv x)
  (h:∀x,inv x->∀Q,(out x).holds Q->(loopBody cx lp ys n u0 body L xl x).holds (roundQ inv μ out Q x)) :
  zU P ys n r0 u0 (.loop body) (loopRun n L pre out):=by
 intro B hB hu hy S pre' out' hrun hnd Q hQ a w hs
 subst hB
 unfold loopRun at hrun
 split at hrun<;>try (cases hrun;done)
 rename_i x hx
 cases hrun
 have hs0:=Lay.sat hL hu hx hs
 refine wpIn_loop_ex (fun x a w=>inv x/\(out x).holds Q/\Sat B (L.st u0 x) a w) μ x ⟨hpre x hnd,hQ,hs0⟩ ?_
 rintro x a w ⟨hi,hq,hs⟩
 refine jA hm hu hy body 0 (L.st u0 x) _ _ _ hl (jP _ _) (h x hi Q hq) ?_ a w hs
 intro e S' K' a' w' _ hs' hk
 have hexit:∀e',(match xl e' S' with
   |some L' =>match L'.ext B.n S' with
    |some z=>.leaf (.inr (e',L'.st u0 z))
    |none=>.fail 21
   |none=>.fail 22:Tree (L.den ⊕ (Exit × St))).holds (roundQ inv μ out Q x)->∃S',Q (e',S')/\Sat B S' a' w':=by
  intro e' hk
  split at hk
  ·rename_i L' hL'
   split at hk
   ·rename_i z hz
    exact⟨_,hk,Lay.sat (hxl _ _ _ hL') hu hz hs'⟩
   ·exact hk.elim
  ·exact hk.elim
 cases e with
 |normal=>
  dsimp only at hk
  split at hk
  ·rename_i y hy
   obtain⟨⟨h1,h2⟩,h3⟩:=hk
   exact⟨y,⟨h1,h3,Lay.sat hL hu hy hs'⟩,h2⟩
  ·exact hk.elim
 |exit id=>exact hexit _ hk
 |goto l=>exact hexit _ hk
 |ret=>exact hexit _ hk
 |panic ch=>exact hexit _ hk
 |outgrown=>exact hexit _ hk
end Go.Sx
namespace Go.Sx
open Go.RowKit
theorem qS{P:Program}{ys:List YH}{n:Nat}{r0:Option Nat}{u0:Nat->Bool}:∀(c:Code)(cur:Nat),wO P ys n r0 u0 (fun _=>none) cur c
 |.seq a b,cur=>⟨qS a cur,qS b cur⟩
 |.cond _ a b,cur=>⟨qS a cur,qS b cur⟩
 |.block id b,_=>qS b id
 |.scope b,cur=>qS b cur
 |.loop _,_=>fun _ h=>by cases h
 |.rangeFunc _ _ _ _,_=>fun _ h=>by cases h
 |.skip,_ |.region _ _ _,_ |.exit _,_ |.ret,_ |.label _,_ |.goto _,_ |.refuse _,_=>trivial
end Go.Sx
namespace Go.Sx
open Go.RowKit
theorem args_rep{E:En}{U:Nat->Bool}{w:World}{args:List SV}{zM:List Value}(hr:zA E U w args zM) (m:Nat) (t:Nat) :
  Rep E U w (args.getD t (.tup [])) ((zM.toArray++Array.replicate m undef).getD t undef):=by
 have hvl:=hr.length
 rcases Nat.lt_or_ge t args.length with h |h
 ·obtain⟨v,hv,hrv⟩:=hr.get (i:=t) (c:=args[t]) (List.getElem?_eq_getElem h)
  rw[show args.getD t (.tup [])=args[t] from by simp[List.getD,List.getElem?_eq_getElem h]]
  have hlt:t<zM.length:=by omega
  have:(zM.toArray++Array.replicate m undef).getD t undef=v:=by
   rw[List.getElem?_eq_getElem hlt] at hv
   have h1:(zM.toArray++Array.replicate m undef)[t]? = some v:=by
    rw[Array.getElem?_append_left (by simpa using hlt)]
    simpa[List.getElem?_eq_getElem hlt] using hv
   simp only[Array.getD_eq_getD_getElem?,h1,Option.getD_some]
  rw[this];exact hrv
 ·rw[show args.getD t (.tup []) = .tup [] from by simp[List.getD,List.getElem?_eq_none h]]
  have:(zM.toArray++Array.replicate m undef).getD t undef=undef:=by
   have h1:(zM.toArray++Array.replicate m undef)[t]? = (Array.replicate m undef)[t - zM.length]?:=by
    rw[Array.getElem?_append_right (by simpa using by omega)]
    simp
   simp only[Array.getD_eq_getD_getElem?,h1,Array.getElem?_replicate]
   split<;>rfl
  rw[this]
  exact q_ _ _ _
end Go.Sx
namespace Go.Sx
open Go.RowKit
def zJ(f:Func):Code :=
 match f.body with
 |some c=>c
 |none=>.skip
def vP:Nat->Code->List (Nat × Code)
 |cur,.seq a b=>vP cur a++vP cur b
 |cur,.cond _ a b=>vP cur a++vP cur b
 |_,.block id b=>vP id b
 |cur,.scope c=>vP cur c
 |cur,.loop body=>[(cur,.loop body)]
 |cur,.rangeFunc g ps assign body=>[(cur,.rangeFunc g ps assign body)]
 |_,_=>[]
def lookC:List (Nat × Code)->Nat->Code
 |(i,c)::r,id=>bif Nat.beq i id then c else lookC r id
 | [],_=>.skip
def jH(c:Code)(id:Nat):Code:=lookC (vP 0 c) id
def jI:Code->Code
 |.loop b=>b
 |_=>.skip
def isLoop:Code->Bool
 |.loop _=>true
 |_=>false
theorem isLoop_eq{c:Code}(h:isLoop c=true):c = .loop (jI c):=by cases c<;>first |rfl |cases h
def yN:List Nat->Bool
 | []=>true
 |k::r=>!inL r k&&yN r
def zH:List (Nat × jS)->Nat->Option jS
 |(i,r)::l,id=>bif Nat.beq i id then some r else zH l id
 | [],_=>none
theorem xB{P:Program}{ys:List YH}{n:Nat}{r0:Option Nat}{u0:Nat->Bool}{lp:Nat->Option jS}:∀(c:Code)(cur:Nat),(∀p∈vP cur c,∀run,lp p.1=some run->zU P ys n r0 u0 p.2 run)->wO P ys n r0 u0 lp cur c
 |.seq a b,cur,h=>⟨xB a cur fun p hp=>h p (List.mem_append_left _ hp),xB b cur fun p hp=>h p (List.mem_append_right _ hp)⟩
 |.cond _ a b,cur,h=>⟨xB a cur fun p hp=>h p (List.mem_append_left _ hp),xB b cur fun p hp=>h p (List.mem_append_right _ hp)⟩
 |.block id b,_,h=>xB b id h
 |.scope c,cur,h=>xB c cur h
 |.loop b,cur,h=>fun run hr=>h (cur,.loop b) (by simp[vP]) run hr
 |.rangeFunc g ps a b,cur,h=>fun run hr=>h (cur,.rangeFunc g ps a b) (by simp[vP]) run hr
 |.skip,_,_ |.region _ _ _,_,_ |.exit _,_,_ |.ret,_,_ |.label _,_,_ |.goto _,_,_ |.refuse _,_,_=>trivial
theorem lookC_mem:∀{l:List (Nat × Code)}{p:Nat × Code},yN (l.map (·.1))=true->p∈l->lookC l p.1=p.2
 |(i,c)::r,p,hn,hp=>by
  simp only[List.map_cons,yN,Bool.and_eq_true,Bool.not_eq_true'] at hn
  simp only[lookC,zX]
  rcases List.mem_cons.1 hp with rfl |hp
  ·simp
  ·by_cases e:i=p.1
   ·have:inL (r.map (·.1)) i=true:=zO.2 (by rw[e];exact List.mem_map_of_mem hp)
    rw[this] at hn;cases hn.1
   ·simp only[e,decide_false,cond_false]
    exact lookC_mem hn.2 hp
theorem lpOf_mem:∀{l:List (Nat × jS)}{id:Nat}{r:jS},zH l id=some r->(id,r)∈l
 |(i,q)::l,id,r,h=>by
  simp only[zH,zX] at h
  by_cases e:i=id
  ·subst e
   simp only[decide_true,cond_true,Option.some.injEq] at h
   subst h;simp
  ·simp only[e,decide_false,cond_false] at h
   exact List.mem_cons_of_mem _ (lpOf_mem h)
theorem loopsOk_lp{P:Program}{ys:List YH}{n:Nat}{r0:Option Nat}{u0:Nat->Bool}{c:Code}{lps:List (Nat × jS)}(hn:yN ((vP 0 c).map (·.1))=true)
  (h:∀q∈lps,zU P ys n r0 u0 (jH c q.1) q.2):wO P ys n r0 u0 (zH lps) 0 c:=by
 refine xB c 0 fun p hp run hr=>?_
 have:=h _ (lpOf_mem hr)
 unfold jH at this
 rw[lookC_mem hn hp] at this
 exact this
theorem loop_at{P:Program}(hm:P.follows .mixedOrders=true) {cx:List (GC P)}{lps:List (Nat × jS)}{ys:List YH}{n:Nat}{r0:Option Nat}{u0:Nat->Bool}{c:Code}{L:Lay}{xl:Exit->St->Option Lay}{pre:L.den->Option Prop}{out:L.den->Tree (Exit × St)}
  (inv:L.den->Prop) (μ:L.den->Nat) (hc:isLoop c=true) (hL:L.ok u0=true) (hxl:∀e S L',xl e S=some L'->L'.ok u0=true) (hn:yN ((vP 0 (jI c)).map (·.1))=true)
  (hl:∀q∈lps,zU P ys n r0 u0 (jH (jI c) q.1) q.2) (hpre:∀x,ndP (pre x)->inv x)
  (h:∀x,inv x->∀Q,(out x).holds Q->(loopBody cx (zH lps) ys n u0 (jI c) L xl x).holds (roundQ inv μ out Q x)) :
  zU P ys n r0 u0 c (loopRun n L pre out):=by
 rw[isLoop_eq hc]
 exact loop_ok hm inv μ hL hxl (loopsOk_lp hn hl) hpre h
theorem fn_at{P:Program}(hm:P.follows .mixedOrders=true) {cx:List (GC P)}{lps:List (Nat × jS)}{f:FuncId}{fn:Func}(hf:P.funcs[f]? = some fn) {args:List SV}{res:SV}(hn:yN ((vP 0 (zJ fn)).map (·.1))=true)
  (hl:∀q∈lps,zU P [] fn.ntmps none noU (jH (zJ fn) q.1) q.2) {T:Tree SV}(ht:jD cx (zH lps) fn args=T) (h:T.holds fun s=>s=res):FnOk P f args res:=by
 refine fn_ok hm hf (fun c hc=>?_) (by rw[ht];exact h)
 have e:zJ fn=c:=by unfold zJ;rw[hc]
 rw[e] at hn hl
 exact loopsOk_lp hn hl
end Go.Sx
