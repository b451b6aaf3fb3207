/- Part 4 of a verified symbolic walk over the model's code: what it says of a function's code holds of every run of it. No condition. -/
import Derived.Test.YtfhomgggbhjglaaGreatFw3
import Derived.ProofKit
import Derived.OpenShut
import Derived.WideKeyArgs
set_option linter.unusedVariables false
set_option linter.unusedSimpArgs false

namespace Go.Sx
open Go.RowKit
theorem k_(H:Hp):∀(a b:List (Nat × Option Ob)),apH H (a++b)=apH (apH H b) a
 | [],b=>rfl
 |(k,o)::r,b=>by
  funext j
  show (bif Nat.beq j k then o else apH H (r++b) j)=(bif Nat.beq j k then o else apH (apH H b) r j)
  rw[k_ H r b]
theorem HSat.along{w0 w:World}{M M2:Nat->Prop}{E E2:En}{U U2:Nat->Bool}{H H2:Hp}(hs:HSat w0 M E U H w) (τ:Nat->Nat) (hI:E2.I=E.I) (hM:∀b,M b->M2 b)
  (h:∀k o,H2 k=some o->U2 k=true/\pJ E2 U2 w k o/\(o.live E2 k->E2.ρ k=E.ρ (τ k)/\∃o',H (τ k)=some o'/\o'.live E (τ k)))
  (hinj:∀j k o o',H2 j=some o->H2 k=some o'->o.live E2 j->o'.live E2 k->τ j=τ k->j=k) (hf:Frm w0 M2 w):HSat w0 M2 E2 U2 H2 w:=by
 have hlv:∀k,jF E2 H2 k->jF E H (τ k)/\E2.ρ k=E.ρ (τ k):=by
  rintro k ⟨o,ho,hl⟩
  obtain⟨_,_,h3⟩:=h k o ho
  obtain⟨h3,o',h4,h5⟩:=h3 hl
  exact⟨⟨o',h4,h5⟩,h3⟩
 refine⟨fun k o ho=>⟨(h k o ho).1,(h k o ho).2.1⟩,fun j k hj hk he=>?_,fun k hk=>?_,fun b hb=>hs.lt b (hI ▸ hb),fun k hk=>?_,hf⟩
 ·obtain⟨h1,h2⟩:=hlv j hj
  obtain⟨h3,h4⟩:=hlv k hk
  obtain⟨o,ho,hl⟩:=hj
  obtain⟨o',ho',hl'⟩:=hk
  exact hinj j k o o' ho ho' hl hl' (hs.inj _ _ h1 h3 (by rw[<- h2,<- h4];exact he))
 ·obtain⟨h1,h2⟩:=hlv k hk
  rw[hI,h2];exact hs.imm _ h1
 ·obtain⟨h1,h2⟩:=hlv k hk
  rw[h2]
  rcases hs.mine _ h1 with h |h
  ·exact .inl (hM _ h)
  ·exact .inr h
structure MOut where
 res:SV
 boxes:List (List SV)
 news:List Ob:=[]
def zC:Nat:=100
def pW:List Nat->List (List SV)->Nat->Option Ob
 |i::r,cs::q,k=>bif Nat.beq k i then some (.box cs) else pW r q k
 |_,_,_=>none
def kA:Nat->List Ob->Nat->Option Ob
 |i,o::r,k=>bif Nat.beq k i then some o else kA (i+1) r k
 |_,[],_=>none
def kR:List Nat->List Ob->Nat->Option Ob
 |i::r,o::q,k=>bif Nat.beq k i then some o else kR r q k
 |_,_,_=>none
def MOut.heap(o:MOut)(L:Lay):Hp:=fun k=>match pW (L.boxes.map (·.1)) o.boxes k with
 |some b=>some b
 |none=>match kR (yO L.shs) (o.news.take (yO L.shs).length) k with
  |some b=>some b
  |none=>kA zC (o.news.drop (yO L.shs).length) k
def Lay.params(L:Lay)(x:L.den):List SV:=(z_ L.rb L.shs x).take L.slots.length
def qV(P:Program)(f:FuncId)(L:Lay)(x:L.den)(o:MOut):Prop :=
 ∀(E:En)(w:World)(zM:List Value),HSat w (Mof E (L.st noU x).heap) E (L.st noU x).used (L.st noU x).heap w->zA E (L.st noU x).used w (L.params x) zM ->
  Calls P f zM.toArray w fun e w' =>∃v,e = .returned v/\∃E' U',En.Le (L.st noU x).used U' E E' w w'/\HSat w (Mof E (L.st noU x).heap) E' U' (o.heap L) w'/\vZ E E' (L.st noU x).heap w/\Rep E' U' w' o.res v
mutual
def jY(f:Nat->Nat):SV->SV
 |.ptr k o=>.ptr (f k) o
 |.own k=>.own (f k)
 |.oel k s i o=>.oel (f k) s i o
 |.sub k s i j=>.sub (f k) s i j
 |.bsl k n=>.bsl (f k) n
 |.yld k=>.yld (f k)
 |.mp k=>.mp (f k)
 |.agg cs=>.agg (kL f cs)
 |.tup cs=>.tup (kL f cs)
 |.big cs=>.big (kL f cs)
 |.fn g cs=>.fn g (kL f cs)
 |s=>s
def kL(f:Nat->Nat):List SV->List SV
 | []=>[]
 |c::cs=>jY f c::kL f cs
end
theorem ren_arr(f:Nat->Nat)(s:SV):jU (jY f s)=jU s:=by cases s<;>unfold jY<;>rfl
theorem renL_mask(f:Nat->Nat):∀cs:List SV,(kL f cs).map jU=cs.map jU
 | []=>by unfold kL;rfl
 |c::cs=>by unfold kL;rw[List.map_cons,List.map_cons,ren_arr,renL_mask f cs]
mutual
theorem ren_rep{E E2:En}{U U2:Nat->Bool}{w:World}{f:Nat->Nat}(hI:E2.I=E.I):∀(s:SV)(v:Value),(∀k∈vW s,U2 (f k)=true/\E2.ρ (f k)=E.ρ k/\E2.sv (f k)=E.sv k)->Rep E U w s v->Rep E2 U2 w (jY f s) v
 |.ptr k o,v,h,hr=>by
  obtain⟨h1,h2,_⟩:=h k (by simp[vW])
  unfold jY;unfold Rep at *
  exact⟨h1,by rw[h2];exact hr.2⟩
 |.own k,v,h,hr=>by
  obtain⟨h1,_,h2⟩:=h k (by simp[vW])
  unfold jY;unfold Rep at *
  exact⟨h1,by rw[h2];exact hr.2.1,hr.2.2⟩
 |.oel k s i o,v,h,hr=>by
  obtain⟨h1,h2,_⟩:=h k (by simp[vW])
  unfold jY;unfold Rep at *
  exact⟨h1,by rw[h2];exact hr.2⟩
 |.bsl k n,v,h,hr=>by
  obtain⟨h1,h2,_⟩:=h k (by simp[vW])
  unfold jY;unfold Rep at *
  exact⟨h1,by rw[h2];exact hr.2⟩
 |.sub k s i j,v,h,hr=>by
  obtain⟨h1,_,h2⟩:=h k (by simp[vW])
  unfold jY;unfold Rep at *
  exact⟨h1,by rw[h2];exact hr.2⟩
 |.yld k,v,h,hr=>by
  obtain⟨h1,h2,_⟩:=h k (by simp[vW])
  unfold jY;unfold Rep at *
  exact⟨h1,by rw[h2];exact hr.2⟩
 |.mp k,v,h,hr=>by
  obtain⟨h1,h2,_⟩:=h k (by simp[vW])
  unfold jY;unfold Rep at *
  exact⟨h1,by rw[h2];exact hr.2⟩
 |.agg cs,v,h,hr=>by unfold jY;unfold Rep at *;obtain⟨vs,e,hl⟩:=hr;exact⟨vs,e,ren_repL hI cs vs (fun k hk=>h k (by simpa[vW] using hk)) hl⟩
 |.tup cs,v,h,hr=>by unfold jY;unfold Rep at *;obtain⟨vs,e,hl⟩:=hr;exact⟨vs,e,ren_repL hI cs vs (fun k hk=>h k (by simpa[vW] using hk)) hl⟩
 |.fn g cs,v,h,hr=>by unfold jY;unfold Rep at *;obtain⟨vs,e,hl⟩:=hr;exact⟨vs,e,ren_repL hI cs vs (fun k hk=>h k (by simpa[vW] using hk)) hl⟩
 |.big cs,v,h,hr=>by
  unfold jY;unfold Rep at *
  obtain⟨vs,e,hl⟩:=hr
  exact⟨vs,by rw[wI (renL_mask f cs)];exact e,ren_repL hI cs vs (fun k hk=>h k (by simpa[vW] using hk)) hl⟩
 |.arr t n l,v,_,hr=>by unfold jY;exact zI hI (.arr t n l) v rfl hr
 |.any,v,_,hr=>by unfold jY;exact zI hI .any v rfl hr
 |.int k n,v,_,hr=>by unfold jY;exact zI hI _ v rfl hr
 |.bool b,v,_,hr=>by unfold jY;exact zI hI _ v rfl hr
 |.str b,v,_,hr=>by unfold jY;exact zI hI _ v rfl hr
 |.sl t l,v,_,hr=>by unfold jY;exact zI hI _ v rfl hr
 |.osl t l,v,_,hr=>by unfold jY;exact zI hI _ v rfl hr
 |.nsl t l b,v,_,hr=>by unfold jY;exact zI hI _ v rfl hr
 |.adr t l,v,_,hr=>by unfold jY;exact zI hI _ v rfl hr
 |.nils,v,_,hr=>by unfold jY;exact zI hI _ v rfl hr
 |.nilp,v,_,hr=>by unfold jY;exact zI hI _ v rfl hr
theorem ren_repL{E E2:En}{U U2:Nat->Bool}{w:World}{f:Nat->Nat}(hI:E2.I=E.I):∀(s:List SV)(v:List Value),(∀k∈wX s,U2 (f k)=true/\E2.ρ (f k)=E.ρ k/\E2.sv (f k)=E.sv k)->zA E U w s v->zA E2 U2 w (kL f s) v
 | [],_,_,h=>by unfold kL;unfold zA at *;exact h
 |c::cs,_,hk,h=>by
  unfold kL
  unfold zA at *
  obtain⟨v,r,e,h1,h2⟩:=h
  exact⟨v,r,e,ren_rep hI c v (fun k hk' =>hk k (by simp[wX,hk'])) h1,ren_repL hI cs r (fun k hk' =>hk k (by simp[wX,hk'])) h2⟩
end
mutual
theorem renSV_id:∀s:SV,jY (fun k=>k) s=s
 |.agg cs=>by unfold jY;rw[renL_id cs]
 |.tup cs=>by unfold jY;rw[renL_id cs]
 |.fn g cs=>by unfold jY;rw[renL_id cs]
 |.big cs=>by unfold jY;rw[renL_id cs]
 |.arr _ _ _=>by unfold jY;rfl
 |.sub _ _ _ _ |.bsl _ _ |.ptr _ _ |.own _ |.oel _ _ _ _ |.yld _ |.mp _ |.any |.int _ _ |.bool _ |.str _ |.sl _ _ |.osl _ _ |.nsl _ _ _ |.adr _ _ |.nils |.nilp=>by unfold jY;rfl
theorem renL_id:∀s:List SV,kL (fun k=>k) s=s
 | []=>by unfold kL;rfl
 |c::cs=>by unfold kL;rw[renSV_id c,renL_id cs]
end
def dedup:List Nat->List Nat->List Nat
 |seen,[]=>[]
 |seen,k::r=>bif inL seen k then dedup seen r else k::dedup (k::seen) r
def idx:List Nat->Nat->Nat
 | [],_=>0
 |j::r,k=>bif Nat.beq k j then 0 else idx r k+1
def jL(H:Hp)(ids:List Nat):Nat->List Sh->List SV->Option (List SV × List (Option Nat × Ob))
 |_,[],[]=>some ([],[])
 |i,.row e t::r,v::q=>match v with
  |.own j=>match H j with
   |some (.row e' t' l)=>if Nat.beq e e'&&Ty.beq t t' then match jL H ids (i+1) r q with
    |some (cs,ns)=>some (.own (zC+i)::cs,(some j,.row e' t' l)::ns)
    |none=>none
    else none
   |_=>none
  |.nils=>match jL H ids (i+1) r q with
   |some (cs,ns)=>some (.own (zC+i)::cs,(none,.row e t [])::ns)
   |none=>none
  |_=>none
 |i,.rowk k _ _::r,v::q=>match v with
  |.own j=>if Nat.beq j k&&inL ids j then match jL H ids i r q with
   |some (cs,ns)=>some (.own j::cs,ns)
   |none=>none
   else none
  |_=>none
 |i,_::r,v::q=>if (vW (vw H v)).all (inL ids) then match jL H ids i r q with
  |some (cs,ns)=>some (vw H v::cs,ns)
  |none=>none
  else none
 |_,_,_=>none
theorem vw_mask(H:Hp)(s:SV):jU (vw H s)=jU s:=by
 cases s with
 |own k=>
  unfold vw
  split<;>rfl
 |agg cs=>unfold vw;rfl
 |tup cs=>unfold vw;rfl
 |_=>unfold vw;rfl
theorem vwL_mask(H:Hp):∀cs:List SV,(vwL H cs).map jU=cs.map jU
 | []=>by unfold vwL;rfl
 |c::cs=>by unfold vwL;rw[List.map_cons,List.map_cons,vw_mask,vwL_mask H cs]
theorem xU{H:Hp}{ids:List Nat}:∀{i:Nat}{shs:List Sh}{cs c:List SV}{ns:List (Option Nat × Ob)},jL H ids i shs cs=some (c,ns)->c.map jU=cs.map jU
 |i,[],[],c,ns,h=>by cases h;rfl
 |i,[],_::_,c,ns,h=>by cases h
 |i,s::r,[],c,ns,h=>by cases s<;>cases h
 |i,s::r,v::q,c,ns,h=>by
  have other:(if (vW (vw H v)).all (inL ids) then match jL H ids i r q with
    |some (cs,ns)=>some (vw H v::cs,ns)
    |none=>none
    else none)=some (c,ns)->c.map jU=(v::q).map jU:=fun h=>by
   split at h<;>try (cases h;done)
   split at h<;>try (cases h;done)
   rename_i cs' ns' h1
   cases h
   rw[List.map_cons,List.map_cons,vw_mask,xU h1]
  cases s with
  |row e t=>
   simp only[jL] at h
   split at h<;>try (cases h;done)
   ·split at h<;>try (cases h;done)
    split at h<;>try (cases h;done)
    split at h<;>try (cases h;done)
    rename_i cs' ns' h1
    cases h
    rw[List.map_cons,List.map_cons,xU h1]
    rfl
   ·split at h<;>try (cases h;done)
    rename_i cs' ns' h1
    cases h
    rw[List.map_cons,List.map_cons,xU h1]
    rfl
  |rowk a e t=>
   cases v<;>simp only[jL] at h<;>try (cases h;done)
   split at h<;>try (cases h;done)
   split at h<;>try (cases h;done)
   rename_i cs' ns' h1
   cases h
   rw[List.map_cons,List.map_cons,xU h1]
  |_=>exact other h
def outAll(H:Hp)(ids:List Nat):Nat->List (Nat × List Sh)->Option (List (List SV) × List (Option Nat × Ob))
 |_,[]=>some ([],[])
 |i,(k,shs)::r=>match H k with
  |some (.box cs)=>match jL H ids i shs cs with
   |some (c,ns)=>match outAll H ids (i+ns.length) r with
    |some (bx,ms)=>some (c::bx,ns++ms)
    |none=>none
   |none=>none
  |_=>none
def frzC:List Sh->List SV->List Nat
 |.row _ _::r,_::q=>frzC r q
 |.rowk _ _ _::r,_::q=>frzC r q
 |_::r,v::q=>vW v++frzC r q
 |_,_=>[]
def frzB(H:Hp):List (Nat × List Sh)->List Nat
 |(k,shs)::r=>(match H k with
  |some (.box cs)=>frzC shs cs
  |_=>[])++frzB H r
 | []=>[]
def newOf(H:Hp)(k:Nat):Option Ob :=
 match H k with
 |some (.box cs)=>bif xK (vwL H cs) then some (.box (vwL H cs)) else none
 |some (.row e t l)=>some (.row e t l)
 |some (.mp es)=>some (.mp es)
 |_=>none
def newsAll(H:Hp):List Nat->Option (List Ob)
 | []=>some []
 |k::r=>match newOf H k,newsAll H r with
  |some c,some q=>some (c::q)
  |_,_=>none
def cellIds(H:Hp)(k:Nat):List Nat :=
 match H k with
 |some (.box cs)=>wX cs
 |_=>[]
def gU:List (Option Nat)->List Nat
 |some k::r=>k::gU r
 |none::r=>gU r
 | []=>[]
def newsOf:List (Option Nat × Ob)->List Ob->List Ob
 | [],ns=>ns
 |(_,o)::r,ns=>o::newsOf r ns
theorem newsOf_eq:∀(rows:List (Option Nat × Ob))(ns:List Ob),newsOf rows ns=rows.map (·.2)++ns
 | [],ns=>rfl
 |(_,o)::r,ns=>by rw[newsOf,newsOf_eq r ns];rfl
def fixsAll(H:Hp):List Nat->Option (List Ob)
 | []=>some []
 |k::r=>match H k,fixsAll H r with
  |some (.row e t l),some q=>some (.row e t l::q)
  |_,_=>none
def mRes(H:Hp)(bs:List (Nat × List Sh))(fids:List Nat)(own:Bool)(r:SV):Tree MOut :=
 let ids:=bs.map (·.1)++fids
 let r':=bif own then r else vw H r
 let ks:=dedup ids (vW r')
 match outAll H ids 0 bs,newsAll H ks,fixsAll H fids with
 |some (bx,rows),some ns,some fx=>
  let fz:=(bif own then [] else vW r)++(frzB H bs++ks.flatMap (cellIds H))
  let so:=gU (rows.map (·.1)++ks.map some)
  bif (so.all fun k=>!inL fz k && !inL ids k)&&yN so&&(fids.all fun k=>!inL fz k)&&Nat.ble (rows.length+ks.length) 1000 then
   .leaf ⟨jY (fun k=>bif inL ids k then k else zC+(rows.length+idx ks k)) r',bx,fx++newsOf rows ns⟩
  else .fail 51
 |_,_,_=>.fail 52
def mLeaf(P:Program)(fn:Func)(n:Nat)(L:Lay)(own:Bool)(e:Exit)(S:St):Tree MOut :=
 match zAd P n S fn.results.toList with
 |some ss=>match e with
  |.normal=>mRes S.heap L.boxes (yO L.shs) own (qP ss)
  |.ret=>mRes S.heap L.boxes (yO L.shs) own (qP ss)
  |_=>.fail 12
 |none=>.fail 11
def jG{P:Program}(cx:List (GC P)) (lp:Nat->Option jS) (fn:Func) (L:Lay) (own:Bool) (x:L.den):Tree MOut :=
 match fn.body with
 |some c=>if Nat.ble L.slots.length fn.ntmps then jR cx lp [] fn.ntmps 0 c ⟨fun t=>(L.params x).getD t (.tup []),(L.st noU x).heap,(L.st noU x).used⟩ (fun _=>none) (fun e S _=>mLeaf P fn fn.ntmps L own e S) else .fail 13
 |none=>.fail 14
end Go.Sx
namespace Go.Sx
open Go.RowKit
theorem dedup_all:∀{l seen:List Nat}{k:Nat},k∈l->k∈seen\/k∈dedup seen l
 |j::r,seen,k,h=>by
  simp only[dedup]
  cases hb:inL seen j with
  |true=>
   rw[cond_true]
   rcases List.mem_cons.1 h with rfl |h
   ·exact .inl (zO.1 hb)
   ·exact dedup_all h
  |false=>
   rw[cond_false]
   rcases List.mem_cons.1 h with rfl |h
   ·exact .inr (by simp)
   ·rcases dedup_all (seen:=j::seen) h with h |h
    ·rcases List.mem_cons.1 h with rfl |h
     ·exact .inr (by simp)
     ·exact .inl h
    ·exact .inr (List.mem_cons_of_mem _ h)
theorem idx_get:∀{ks:List Nat}{k:Nat},k∈ks->ks[idx ks k]? = some k
 |j::r,k,h=>by
  simp only[idx,zX]
  by_cases e:k=j
  ·subst e;simp
  ·simp only[e,decide_false,cond_false]
   rcases List.mem_cons.1 h with rfl |h
   ·exact absurd rfl e
   ·simpa using idx_get h
theorem lookNew_get:∀{ns:List Ob}{i k:Nat}{o:Ob},kA i ns k=some o->∃j,k=i+j/\ns[j]? = some o
 |p::r,i,k,o,h=>by
  simp only[kA,zX] at h
  by_cases e:k=i
  ·subst e
   simp only[decide_true,cond_true,Option.some.injEq] at h
   exact⟨0,by simp,by simp[h]⟩
  ·simp only[e,decide_false,cond_false] at h
   obtain⟨j,h1,h2⟩:=lookNew_get h
   exact⟨j+1,by omega,by simpa using h2⟩
theorem newsAll_get{H:Hp}:∀{ks:List Nat}{ns:List Ob}{j:Nat}{o:Ob},newsAll H ks=some ns->ns[j]? = some o->∃k,ks[j]? = some k/\newOf H k=some o
 | [],ns,j,o,h,hj=>by cases h;simp at hj
 |k::r,ns,j,o,h,hj=>by
  simp only[newsAll] at h
  split at h<;>try (cases h;done)
  rename_i c q h1 h2
  cases h
  cases j with
  |zero=>simp at hj;subst hj;exact⟨k,rfl,h1⟩
  |succ j=>simpa using newsAll_get h2 (j:=j) (by simpa using hj)
theorem newsAll_length{H:Hp}:∀{ks:List Nat}{ns:List Ob},newsAll H ks=some ns->ns.length=ks.length
 | [],ns,h=>by cases h;rfl
 |k::r,ns,h=>by
  simp only[newsAll] at h
  split at h<;>try (cases h;done)
  rename_i c q h1 h2
  cases h
  simp[newsAll_length h2]
def RowFrom(H:Hp)(p:Option Nat × Ob):Prop:=∃e t l,p.2 = .row e t l/\((∃k,p.1=some k/\H k=some (.row e t l))\/(p.1=none/\l=[]))
theorem jO{H:Hp}{ids:List Nat}:∀{i:Nat}{shs:List Sh}{cs c:List SV}{ns:List (Option Nat × Ob)},jL H ids i shs cs=some (c,ns)->∀p∈ns,RowFrom H p
 |i,[],[],c,ns,h=>by cases h;intro p hp;cases hp
 |i,[],_::_,c,ns,h=>by cases h
 |i,s::r,[],c,ns,h=>by cases s<;>cases h
 |i,.row e t::r,v::q,c,ns,h=>by
  cases v<;>simp only[jL] at h<;>try (cases h;done)
  ·split at h<;>try (cases h;done)
   rename_i e' t' l hj
   split at h<;>try (cases h;done)
   split at h<;>try (cases h;done)
   rename_i cs' ns' hr
   cases h
   intro p hp
   rcases List.mem_cons.1 hp with rfl |hp
   ·exact⟨_,_,_,rfl,.inl ⟨_,rfl,hj⟩⟩
   ·exact jO hr p hp
  ·split at h<;>try (cases h;done)
   rename_i cs' ns' hr
   cases h
   intro p hp
   rcases List.mem_cons.1 hp with rfl |hp
   ·exact⟨_,_,_,rfl,.inr ⟨rfl,rfl⟩⟩
   ·exact jO hr p hp
 |i,.val _::r,v::q,c,ns,h=>by
  simp only[jL] at h
  split at h<;>try (cases h;done)
  split at h<;>try (cases h;done)
  rename_i hr;cases h;exact jO hr
 |i,.agg _::r,v::q,c,ns,h=>by
  simp only[jL] at h
  split at h<;>try (cases h;done)
  split at h<;>try (cases h;done)
  rename_i hr;cases h;exact jO hr
 |i,.ptr _ _::r,v::q,c,ns,h=>by
  simp only[jL] at h
  split at h<;>try (cases h;done)
  split at h<;>try (cases h;done)
  rename_i hr;cases h;exact jO hr
 |i,.fn _::r,v::q,c,ns,h=>by
  simp only[jL] at h
  split at h<;>try (cases h;done)
  split at h<;>try (cases h;done)
  rename_i hr;cases h;exact jO hr
 |i,.clo _ _::r,v::q,c,ns,h=>by
  simp only[jL] at h
  split at h<;>try (cases h;done)
  split at h<;>try (cases h;done)
  rename_i hr;cases h;exact jO hr
 |i,.yld _::r,v::q,c,ns,h=>by
  simp only[jL] at h
  split at h<;>try (cases h;done)
  split at h<;>try (cases h;done)
  rename_i hr;cases h;exact jO hr
 |i,.arr _ _::r,v::q,c,ns,h=>by
  simp only[jL] at h
  split at h<;>try (cases h;done)
  split at h<;>try (cases h;done)
  rename_i hr;cases h;exact jO hr
 |i,.adr _::r,v::q,c,ns,h=>by
  simp only[jL] at h
  split at h<;>try (cases h;done)
  split at h<;>try (cases h;done)
  rename_i hr;cases h;exact jO hr
 |i,.nils::r,v::q,c,ns,h=>by
  simp only[jL] at h
  split at h<;>try (cases h;done)
  split at h<;>try (cases h;done)
  rename_i hr;cases h;exact jO hr
 |i,.any::r,v::q,c,ns,h=>by
  simp only[jL] at h
  split at h<;>try (cases h;done)
  split at h<;>try (cases h;done)
  rename_i hr;cases h;exact jO hr
 |i,.oval _::r,v::q,c,ns,h=>by
  simp only[jL] at h
  split at h<;>try (cases h;done)
  split at h<;>try (cases h;done)
  rename_i hr;cases h;exact jO hr
 |i,.rowk _ _ _::r,v::q,c,ns,h=>by
  cases v<;>simp only[jL] at h<;>try (cases h;done)
  split at h<;>try (cases h;done)
  split at h<;>try (cases h;done)
  rename_i hr;cases h;exact jO hr
theorem outCells_plain{H:Hp}{ids:List Nat}{i:Nat}{s:Sh}{r:List Sh}{v:SV}{q c:List SV}{ns:List (Option Nat × Ob)}(hs:∀e t,s ≠ .row e t) (hs' : ∀k e t,s ≠ .rowk k e t) (h:jL H ids i (s::r) (v::q)=some (c,ns)) :
  (vW (vw H v)).all (inL ids)=true/\∃cs,jL H ids i r q=some (cs,ns)/\c=vw H v::cs/\∀k∈vW v,k∈frzC (s::r) (v::q):=by
 cases s with
 |row e t=>exact absurd rfl (hs e t)
 |rowk k e t=>exact absurd rfl (hs' k e t)
 |_=>
  simp only[jL] at h
  split at h<;>try (cases h;done)
  rename_i ha
  split at h<;>try (cases h;done)
  rename_i hr
  cases h
  exact⟨ha,_,hr,rfl,fun k hk=>List.mem_append_left _ hk⟩
theorem frzC_tail{s:Sh}{r:List Sh}{v:SV}{q:List SV}{k:Nat}(h:k∈frzC r q):k∈frzC (s::r) (v::q):=by
 cases s with
 |row e t=>exact h
 |rowk k e t=>exact h
 |_=>exact List.mem_append_right _ h
theorem pV{w0 w:World}{M:Nat->Prop}{E1 E2:En}{U U2:Nat->Bool}{H H1:Hp}{ids:List Nat}(hs1:HSat w0 M E1 U H1 w) (hI:E2.I=E1.I) (hids:∀k∈ids,U2 k=true/\E2.ρ k=E1.ρ k/\E2.sv k=E1.sv k) :
  ∀{shs:List Sh}{i:Nat}{cs c:List SV}{ns:List (Option Nat × Ob)}{vs:List Value},jL H ids i shs cs=some (c,ns)->(∀k∈frzC shs cs,H1 k=qU (H k)) ->
   (∀j p,ns[j]? = some p->U2 (zC+(i+j))=true/\E2.sv (zC+(i+j))=match p.1 with |some k=>E1.sv k |none=>.slice none 0 0)->zA E1 U w cs vs->zA E2 U2 w c vs
 | [],i,[],c,ns,vs,h,_,_,hr=>by cases h;unfold zA at *;exact hr
 | [],i,_::_,c,ns,vs,h,_,_,_=>by cases h
 |s::r,i,[],c,ns,vs,h,_,_,_=>by cases s<;>cases h
 |s::r,i,v::q,c,ns,vs,h,hf,hn,hr=>by
  unfold zA at hr
  obtain⟨u,us,rfl,h1,h2⟩:=hr
  have plain:(∀e t,s ≠ .row e t)->(∀k e t,s ≠ .rowk k e t)->zA E2 U2 w c (u::us):=by
   intro hs hs'
   obtain⟨ha,cs,hr,rfl,hk⟩:=outCells_plain hs hs' h
   have hv:=vw_rep (H:=H) hs1 v u (fun k hkk=>hf k (hk k hkk)) h1
   have hv2:=ren_rep (E:=E1) (E2:=E2) (U2:=U2) (f:=fun k=>k) hI (vw H v) u (fun k hkk=>hids k (zO.1 (List.all_eq_true.1 ha k hkk))) hv
   rw[renSV_id] at hv2
   exact zA.cons hv2 (pV hs1 hI hids hr (fun k hkk=>hf k (frzC_tail hkk)) hn h2)
  cases s with
  |row e t=>
   cases v<;>simp only[jL] at h<;>try (cases h;done)
   ·split at h<;>try (cases h;done)
    rename_i k e' t' l hj
    split at h<;>try (cases h;done)
    split at h<;>try (cases h;done)
    rename_i cs' ns' hr
    cases h
    have h0:=hn 0 _ rfl
    refine zA.cons ?_ (pV hs1 hI hids hr hf (fun j p hj=>by have:=hn (j+1) p hj;rwa [show i+(j+1)=i+1+j by omega] at this) h2)
    unfold Rep at h1 ⊢
    exact⟨h0.1,by rw[h1.2.1];exact h0.2.symm,h1.2.2⟩
   ·split at h<;>try (cases h;done)
    rename_i cs' ns' hr
    cases h
    have h0:=hn 0 _ rfl
    refine zA.cons ?_ (pV hs1 hI hids hr hf (fun j p hj=>by have:=hn (j+1) p hj;rwa [show i+(j+1)=i+1+j by omega] at this) h2)
    unfold Rep at h1 ⊢
    subst h1
    exact⟨h0.1,h0.2.symm,_,_,_,rfl⟩
  |val t=>exact plain (fun _ _ h=>by cases h) (fun _ _ _ h=>by cases h)
  |agg t=>exact plain (fun _ _ h=>by cases h) (fun _ _ _ h=>by cases h)
  |ptr k o=>exact plain (fun _ _ h=>by cases h) (fun _ _ _ h=>by cases h)
  |fn f=>exact plain (fun _ _ h=>by cases h) (fun _ _ _ h=>by cases h)
  |clo f ks=>exact plain (fun _ _ h=>by cases h) (fun _ _ _ h=>by cases h)
  |yld k=>exact plain (fun _ _ h=>by cases h) (fun _ _ _ h=>by cases h)
  |arr t n=>exact plain (fun _ _ h=>by cases h) (fun _ _ _ h=>by cases h)
  |adr t=>exact plain (fun _ _ h=>by cases h) (fun _ _ _ h=>by cases h)
  |nils=>exact plain (fun _ _ h=>by cases h) (fun _ _ _ h=>by cases h)
  |any=>exact plain (fun _ _ h=>by cases h) (fun _ _ _ h=>by cases h)
  |oval t=>exact plain (fun _ _ h=>by cases h) (fun _ _ _ h=>by cases h)
  |rowk a e t=>
   cases v<;>simp only[jL] at h<;>try (cases h;done)
   rename_i j
   split at h<;>try (cases h;done)
   rename_i hj
   split at h<;>try (cases h;done)
   rename_i cs' ns' hr
   cases h
   rw[Bool.and_eq_true] at hj
   obtain⟨g1,g2,g3⟩:=hids j (zO.1 hj.2)
   refine zA.cons ?_ (pV hs1 hI hids hr (fun k hkk=>hf k (frzC_tail hkk)) hn h2)
   unfold Rep at h1 ⊢
   exact⟨g1,by rw[g3];exact h1.2.1,h1.2.2⟩
theorem outAll_rows{H:Hp}{ids:List Nat}:∀{bs:List (Nat × List Sh)}{i:Nat}{bx:List (List SV)}{rows:List (Option Nat × Ob)},outAll H ids i bs=some (bx,rows)->∀p∈rows,RowFrom H p
 | [],i,bx,rows,h=>by cases h;intro p hp;cases hp
 |(k,shs)::r,i,bx,rows,h=>by
  simp only[outAll] at h
  split at h<;>try (cases h;done)
  split at h<;>try (cases h;done)
  rename_i c ns hc
  split at h<;>try (cases h;done)
  rename_i bx' ms hr
  cases h
  intro p hp
  rcases List.mem_append.1 hp with hp |hp
  ·exact jO hc p hp
  ·exact outAll_rows hr p hp
theorem outAll_box{H:Hp}{ids:List Nat}:∀{bs:List (Nat × List Sh)}{i:Nat}{bx:List (List SV)}{rows:List (Option Nat × Ob)}{k:Nat}{b:Ob},outAll H ids i bs=some (bx,rows)->pW (bs.map (·.1)) bx k=some b ->
  ∃i' shs cs c ns,k∈bs.map (·.1)/\H k=some (.box cs)/\jL H ids (i+i') shs cs=some (c,ns)/\b = .box c/\(∀j p,ns[j]? = some p->rows[i'+j]? = some p)/\(∀m∈frzC shs cs,m∈frzB H bs)
 | [],i,bx,rows,k,b,h,hb=>by cases h;cases hb
 |(k0,shs)::r,i,bx,rows,k,b,h,hb=>by
  simp only[outAll] at h
  split at h<;>try (cases h;done)
  rename_i cs hcs
  split at h<;>try (cases h;done)
  rename_i c ns hc
  split at h<;>try (cases h;done)
  rename_i bx' ms hr
  cases h
  simp only[List.map_cons,pW,zX] at hb
  by_cases e:k=k0
  ·subst e
   simp only[decide_true,cond_true,Option.some.injEq] at hb
   refine⟨0,shs,cs,c,ns,by simp,hcs,hc,hb.symm,fun j p hj=>?_,fun m hm=>?_⟩
   ·have hlt:=(List.getElem?_eq_some_iff.1 hj).1
    rw[Nat.zero_add,List.getElem?_append_left hlt];exact hj
   ·simp only[frzB,hcs];exact List.mem_append_left _ hm
  ·simp only[e,decide_false,cond_false] at hb
   obtain⟨i',shs',cs',c',ns',h1,h2,h3,h4,h5,h6⟩:=outAll_box hr hb
   refine⟨ns.length+i',shs',cs',c',ns',List.mem_cons_of_mem _ h1,h2,by rw[<- Nat.add_assoc];exact h3,h4,fun j p hj=>?_,fun m hm=>?_⟩
   ·rw[List.getElem?_append_right (by omega),show ns.length+i'+j - ns.length=i'+j by omega]
    exact h5 j p hj
   ·simp only[frzB];exact List.mem_append_right _ (h6 m hm)
theorem somes_inj:∀{l:List (Option Nat)}{i j k:Nat},(gU l).Nodup->l[i]? = some (some k)->l[j]? = some (some k)->i=j
 | [],i,j,k,_,h,_=>by simp at h
 |none::r,i,j,k,hn,hi,hj=>by
  cases i with
  |zero=>simp at hi
  |succ i=>cases j with
   |zero=>simp at hj
   |succ j=>rw[somes_inj (l:=r) (i:=i) (j:=j) (k:=k) hn (by simpa using hi) (by simpa using hj)]
 |some a::r,i,j,k,hn,hi,hj=>by
  simp only[gU,List.nodup_cons] at hn
  have mem:∀{l:List (Option Nat)}{i k:Nat},l[i]? = some (some k)->k∈gU l:=by
   intro l
   induction l with
   |nil=>intro i k h;simp at h
   |cons b l ih=>
    intro i k h
    cases i with
    |zero=>simp at h;subst h;simp[gU]
    |succ i=>
     have:=ih (i:=i) (k:=k) (by simpa using h)
     cases b<;>simp[gU,this]
  cases i with
  |zero=>cases j with
   |zero=>rfl
   |succ j=>
    simp at hi;subst hi
    exact absurd (mem (by simpa using hj)) hn.1
  |succ i=>cases j with
   |zero=>
    simp at hj;subst hj
    exact absurd (mem (by simpa using hi)) hn.1
   |succ j=>rw[somes_inj (l:=r) (i:=i) (j:=j) (k:=k) hn.2 (by simpa using hi) (by simpa using hj)]
theorem somes_mem:∀{l:List (Option Nat)}{i k:Nat},l[i]? = some (some k)->k∈gU l
 | [],i,k,h=>by simp at h
 |b::l,i,k,h=>by
  cases i with
  |zero=>simp at h;subst h;simp[gU]
  |succ i=>
   have:=somes_mem (l:=l) (i:=i) (k:=k) (by simpa using h)
   cases b<;>simp[gU,this]
theorem yJ:∀{i:Nat}{l:List Sh}{k:Nat},k∈jC i l->i<=k
 |i,[],k,h=>by cases h
 |i,.row _ _::r,k,h=>by
  rcases List.mem_cons.1 h with rfl |h
  ·exact Nat.le_refl _
  ·have:=yJ h;omega
 |i,.val _::r,k,h=>by have:=yJ (i:=i+1) (l:=r) h;omega
 |i,.agg _::r,k,h=>by have:=yJ (i:=i+1) (l:=r) h;omega
 |i,.ptr _ _::r,k,h=>by have:=yJ (i:=i+1) (l:=r) h;omega
 |i,.fn _::r,k,h=>by have:=yJ (i:=i+1) (l:=r) h;omega
 |i,.clo _ _::r,k,h=>by have:=yJ (i:=i+1) (l:=r) h;omega
 |i,.yld _::r,k,h=>by have:=yJ (i:=i+1) (l:=r) h;omega
 |i,.arr _ _::r,k,h=>by have:=yJ (i:=i+1) (l:=r) h;omega
 |i,.adr _::r,k,h=>by have:=yJ (i:=i+1) (l:=r) h;omega
 |i,.nils::r,k,h=>by have:=yJ (i:=i+1) (l:=r) h;omega
 |i,.any::r,k,h=>by have:=yJ (i:=i+1) (l:=r) h;omega
 |i,.oval _::r,k,h=>by have:=yJ (i:=i+1) (l:=r) h;omega
 |i,.rowk _ _ _::r,k,h=>by have:=yJ (i:=i+1) (l:=r) h;omega
def Lay.mok(L:Lay):Bool:=Nat.ble v_ L.rb&&L.recs.isEmpty&&(L.boxes.all fun b=>Nat.blt b.1 zC)&&(yO L.shs).all fun k=>Nat.blt k zC
theorem nodupB_iff:∀{l:List Nat},yN l=true->l.Nodup
 | [],_=>List.nodup_nil
 |k::r,h=>by
  simp only[yN,Bool.and_eq_true,Bool.not_eq_true'] at h
  rw[List.nodup_cons]
  exact⟨fun hm=>(by rw[zO.2 hm] at h;cases h.1),nodupB_iff h.2⟩
theorem fixsAll_length{H:Hp}:∀{ks:List Nat}{fx:List Ob},fixsAll H ks=some fx->fx.length=ks.length
 | [],fx,h=>by cases h;rfl
 |k::r,fx,h=>by
  simp only[fixsAll] at h
  split at h<;>try (cases h;done)
  rename_i q _ hq
  cases h
  rw[List.length_cons,List.length_cons,fixsAll_length hq]
theorem fixsAll_get{H:Hp}:∀{ks:List Nat}{fx:List Ob}{k:Nat}{b:Ob},fixsAll H ks=some fx->kR ks fx k=some b->k∈ks/\H k=some b/\∃e t l,b = .row e t l
 | [],fx,k,b,h,hb=>by cases h;cases hb
 |k0::r,fx,k,b,h,hb=>by
  simp only[fixsAll] at h
  split at h<;>try (cases h;done)
  rename_i e t l q hr hq
  cases h
  simp only[kR,zX] at hb
  by_cases hk:k=k0
  ·simp only[hk,decide_true,cond_true,Option.some.injEq] at hb
   subst hb
   exact⟨by rw[hk];exact List.mem_cons_self,by rw[hk];exact hr,e,t,l,rfl⟩
  ·simp only[hk,decide_false,cond_false] at hb
   obtain⟨h1,h2⟩:=fixsAll_get hq hb
   exact⟨List.mem_cons_of_mem _ h1,h2⟩
theorem m_ok{P:Program}(hm:P.follows .mixedOrders=true) {cx:List (GC P)}{lps:List (Nat × jS)}{f:FuncId}{fn:Func}(hf:P.funcs[f]? = some fn) {L:Lay}{own:Bool}{x:L.den}{o:MOut}(hok:L.mok=true) (hn:yN ((vP 0 (zJ fn)).map (·.1))=true)
  (hl:∀q∈lps,zU P [] fn.ntmps none (L.st noU x).used (jH (zJ fn) q.1) q.2) {T:Tree MOut}(ht:jG cx (zH lps) fn L own x=T) (h:T.holds fun s=>s=o):qV P f L x o:=by
 intro E w zM hH hr
 subst ht
 simp only[Lay.mok,Bool.and_eq_true,List.isEmpty_iff,List.all_eq_true] at hok
 obtain⟨⟨⟨hrb,hrecs⟩,hlow⟩,hflow⟩:=hok
 have hrb:=Nat.le_of_ble_eq_true hrb
 unfold v_ at hrb
 unfold jG at h
 split at h
 ·rename_i c hc
  split at h
  ·rename_i hnt
   have hnt':=Nat.le_of_ble_eq_true hnt
   have e:zJ fn=c:=by unfold zJ;rw[hc]
   rw[e] at hn hl
   have hvl:=hr.length
   have hpl:(L.params x).length<=L.slots.length:=by unfold Lay.params;rw[List.length_take];omega
   let B:Bs:=⟨w,Mof E (L.st noU x).heap,E,(L.st noU x).used,fn.ntmps,[]⟩
   have hsat:Sat B ⟨fun t=>(L.params x).getD t (.tup []),(L.st noU x).heap,(L.st noU x).used⟩ { tmps:=zM.toArray++Array.replicate (fn.ntmps - zM.toArray.size) undef,defers:=[] } w :=
    ⟨E,by simp[B];omega,wN.refl _ _ _ _,fun t _=>args_rep hr _ t,hH,En.Le.refl _ _ _,fun b hb=>.inl hb⟩
   refine (callsIn_wide (n:=0)).1 (callsIn_of_wp_marks (F:=FR none) hf hc trivial ?_ rfl)
   refine jA hm (r0:=none) (u0:=(L.st noU x).used) (B:=B) (fun k hk=>hk) (fun h hh=>by cases hh) c 0 _ _ _ _ (loopsOk_lp hn hl) (jP _ _) h ?_ _ w hsat
   intro e S' K' a' w' _ hs' hk
   have fin:∀ss,zAd P fn.ntmps S' fn.results.toList=some ss->(mRes S'.heap L.boxes (yO L.shs) own (qP ss)).holds (fun s=>s=o)->LeavesInM (FR none) 0 P fn a'.tmps (fun e w' =>∃v,e = .returned v/\∃E' U',En.Le (L.st noU x).used U' E E' w w'/\HSat w (Mof E (L.st noU x).heap) E' U' (o.heap L) w'/\vZ E E' (L.st noU x).heap w/\Rep E' U' w' o.res v) a'.defers .returning w':=by
    intro ss hss hk
    obtain⟨E0,hsE⟩:=hs'
    obtain⟨ds,hds,hnd,hd⟩:=hsE.defers
    replace hds:a'.defers=ds.map mark:=by rw[hds];exact List.append_nil _
    have hs3:=SatE.shut (B:=B) ds hnd w' ⟨hsE.size,wN.refl _ _ _ _,hsE.tmps,hsE.heap,hsE.le,hsE.fresh⟩ hd
    rw[hds]
    refine xJ ds hnd w' (fun d hm=>(hd d hm).2.1) ?_
    generalize ds.foldl (fun w d=>w.putObj d (.deferred none)) w'=w3 at hs3
    obtain⟨v,hrun,hrep⟩:=kK (fn:=fn) hs3 hss
    refine⟨v,hrun,v,rfl,?_⟩
    unfold mRes at hk
    simp only[newsOf_eq] at hk
    generalize hids:L.boxes.map (·.1)++yO L.shs=ids at hk
    generalize hr' : (bif own then qP ss else vw S'.heap (qP ss))=r' at hk
    generalize hks:dedup ids (vW r')=ks at hk
    split at hk
    ·rename_i bx rows ns fx hbx hns hfx
     generalize hfz:(bif own then [] else vW (qP ss))++(frzB S'.heap L.boxes++ks.flatMap (cellIds S'.heap))=fz at hk
     generalize hsrc:rows.map (·.1)++ks.map some=src at hk
     cases hcond:(((gU src).all fun k=>!inL fz k && !inL ids k)&&yN (gU src)&&((yO L.shs).all fun k=>!inL fz k)&&Nat.ble (rows.length+ks.length) 1000) with
     |false=>rw[hcond] at hk;exact hk.elim
     |true=>
     rw[hcond,cond_true] at hk
     have ho:_=o:=hk
     simp only[Bool.and_eq_true,List.all_eq_true,Bool.not_eq_true'] at hcond
     obtain⟨⟨⟨hsfz,hnod⟩,hffz⟩,hkl⟩:=hcond
     have hfl:=fixsAll_length hfx
     have hkl':=Nat.le_of_ble_eq_true hkl
     have hnod:=nodupB_iff hnod
     have hN:src.length=rows.length+ks.length:=by rw[<- hsrc];simp
     have hnl:=newsAll_length hns
     obtain⟨E1,hle1,hs1,hfr⟩:=hs3.heap.wC fz E0 S'.heap
     generalize hH1:(fun k=>if k∈fz then qU (S'.heap k) else S'.heap k)=H1 at hs1
     have hH1' : ∀k,H1 k=if k∈fz then qU (S'.heap k) else S'.heap k:=fun k=>by rw[<- hH1]
     let τ:Nat->Nat:=fun k=>if zC<=k/\k - zC<src.length then (src.getD (k - zC) none).getD 0 else k
     let E' : En:=⟨fun k=>E1.ρ (τ k),fun k=>if zC<=k/\k - zC<src.length then (match src.getD (k - zC) none with |some j=>E1.sv j |none=>.slice none 0 0) else E1.sv k,E1.I,fun k=>E1.rc k⟩
     let U' : Nat->Bool:=fun k=>(L.st noU x).used k||(Nat.ble zC k&&Nat.blt (k - zC) src.length)
     have hidlow:∀k∈ids,k<zC:=fun k hk=>by
      rw[<- hids] at hk
      rcases List.mem_append.1 hk with hk |hk
      ·obtain⟨b,hb,rfl⟩:=List.mem_map.1 hk
       simpa[Nat.blt_eq] using hlow b hb
      ·simpa[Nat.blt_eq] using hflow k hk
     have hused:∀k,(L.st noU x).used k=true↔(k∈ids\/k∈jC L.rb L.shs):=fun k=>by
      show usd noU (L.ids++jC L.rb L.shs) k=true↔_
      unfold usd
      simp only[Lay.ids,hrecs,List.map_nil,List.append_nil,Bool.false_or]
      rw[zO,List.mem_append,hids]
     have hold:∀k,(L.st noU x).used k=true->¬ (zC<=k/\k - zC<src.length):=fun k hk h=>by
      rcases (hused k).1 hk with h1 |h1
      ·have:=hidlow k h1;omega
      ·have:=yJ h1
       unfold zC at h
       omega
     have hUid:∀k∈ids,(L.st noU x).used k=true:=fun k hk=>(hused k).2 (.inl hk)
     have hτlow:∀k∈ids,τ k=k:=fun k hk=>by
      simp only[τ]
      rw[if_neg (hold k (hUid k hk))]
     have hτ:∀j k,src[j]? = some (some k)->τ (zC+j)=k/\E'.sv (zC+j)=E1.sv k:=fun j k hj=>by
      have hlt:j<src.length:=(List.getElem?_eq_some_iff.1 hj).1
      have hg:src.getD j none=some k:=by simp[List.getD,hj]
      have hc:zC<=zC+j/\zC+j - zC<src.length:=⟨by omega,by omega⟩
      have e:zC+j - zC=j:=by omega
      refine⟨?_,?_⟩
      ·simp only[τ]
       rw[if_pos hc,e,hg];rfl
      ·show (if _ then _ else _)=_
       rw[if_pos hc,e,hg]
     have hτn:∀j,src[j]? = some none->E'.sv (zC+j) = .slice none 0 0:=fun j hj=>by
      have hlt:j<src.length:=(List.getElem?_eq_some_iff.1 hj).1
      have hg:src.getD j none=none:=by simp[List.getD,hj]
      have hc:zC<=zC+j/\zC+j - zC<src.length:=⟨by omega,by omega⟩
      have e:zC+j - zC=j:=by omega
      show (if _ then _ else _)=_
      rw[if_pos hc,e,hg]
     have hnewU:∀j,j<src.length->U' (zC+j)=true:=fun j hj=>by
      have e:zC+j - zC=j:=by omega
      simp[U',e,hj,Nat.blt_eq]
     have hsrcR:∀(j:Nat)(p:Option Nat × Ob),rows[j]? = some p->src[j]? = some p.1:=fun j p hj=>by
      have hlt:=(List.getElem?_eq_some_iff.1 hj).1
      rw[<- hsrc,List.getElem?_append_left (by simpa using hlt),List.getElem?_map,hj];rfl
     have hsrcK:∀j k,ks[j]? = some k->src[rows.length+j]? = some (some k):=fun j k hj=>by
      rw[<- hsrc,List.getElem?_append_right (by simp),List.length_map,show rows.length+j - rows.length=j by omega,List.getElem?_map,hj];rfl
     have hbox1:∀k cs,S'.heap k=some (.box cs)->H1 k=some (.box cs):=fun k cs h=>by
      rw[hH1',h];split<;>rfl
     have hrow1:∀j k e t l,src[j]? = some (some k)->S'.heap k=some (.row e t l)->H1 k=some (.row e t l):=fun j k e t l hj h=>by
      rw[hH1',if_neg]
      ·exact h
      ·intro hmem
       have:=(hsfz k (somes_mem hj)).1
       rw[zO.2 hmem] at this
       cases this
     have hidE:∀k∈ids,U' k=true/\E'.ρ k=E1.ρ k/\E'.sv k=E1.sv k:=fun k hk=>by
      refine⟨by simp only[U',hUid k hk,Bool.true_or],?_,?_⟩
      ·show E1.ρ (τ k)=_;rw[hτlow k hk]
      ·show (if _ then _ else _)=_
       rw[if_neg (hold k (hUid k hk))]
     -- the memory that is left
     have hob:∀k b,(MOut.heap ⟨jY (fun k=>bif inL ids k then k else zC+(rows.length+idx ks k)) r',bx,fx++(rows.map (·.2)++ns)⟩ L) k=some b ->
       (k∈ids/\pW (L.boxes.map (·.1)) bx k=some b)\/(k∈ids/\H1 k=some b/\∃e t l,b = .row e t l)\/(∃j p,k=zC+j/\rows[j]? = some p/\b=p.2)\/(∃j k',k=zC+(rows.length+j)/\ks[j]? = some k'/\newOf S'.heap k'=some b):=fun k b hb=>by
      unfold MOut.heap at hb
      simp only[<- hfl,List.take_left,List.drop_left] at hb
      split at hb
      ·rename_i b' hb'
       cases hb
       obtain⟨_,_,_,_,_,h1,_⟩:=outAll_box hbx hb'
       exact .inl ⟨by rw[<- hids];exact List.mem_append_left _ h1,hb'⟩
      split at hb
      ·rename_i b' hb'
       cases hb
       obtain⟨h1,h2,h3⟩:=fixsAll_get hfx hb'
       refine .inr (.inl ⟨by rw[<- hids];exact List.mem_append_right _ h1,?_,h3⟩)
       rw[hH1',if_neg (fun hm=>by have:=hffz k h1;rw[zO.2 hm] at this;cases this)]
       exact h2
      ·obtain⟨j,h1,h2⟩:=lookNew_get hb
       by_cases hj:j<rows.length
       ·rw[List.getElem?_append_left (by simpa using hj),List.getElem?_map] at h2
        rw[List.getElem?_eq_getElem hj] at h2
        cases h2
        exact .inr (.inr (.inl ⟨j,_,h1,List.getElem?_eq_getElem hj,rfl⟩))
       ·rw[List.getElem?_append_right (by simpa using hj),List.length_map] at h2
        obtain⟨k',h3,h4⟩:=newsAll_get hns h2
        exact .inr (.inr (.inr ⟨j - rows.length,k',by omega,h3,h4⟩))
     have hle0:En.Le (L.st noU x).used S'.used E E0 w w3:=hs3.le
     have hτo:∀k,(L.st noU x).used k=true->τ k=k:=fun k hk=>by simp only[τ];rw[if_neg (hold k hk)]
     refine⟨E',U',⟨fun k hk=>by simp only[U',hk,Bool.true_or],fun k hk=>?_,fun k hk=>?_,fun b hb=>hle1.imm b (hle0.imm b hb),fun b hb=>hle0.heap b hb,fun k hk=>?_⟩,?_,fun b hb=>?_,?_⟩
     ·show E1.ρ (τ k)=_
      rw[hτo k hk,hle1.rho k (hle0.used k hk),hle0.rho k hk]
     ·show (if _ then _ else _)=_
      rw[if_neg (hold k hk),hle1.sv k (hle0.used k hk),hle0.sv k hk]
     ·show E1.rc k=_
      rw[hle1.rc k (hle0.used k hk),hle0.rc k hk]
     ·rw[<- ho]
      -- an object that is left and lives: where it comes from
      have hfrom:∀k b,(MOut.heap ⟨jY (fun k=>bif inL ids k then k else zC+(rows.length+idx ks k)) r',bx,fx++(rows.map (·.2)++ns)⟩ L) k=some b->b.live E' k ->
        (k∈ids/\τ k=k)\/∃j k',k=zC+j/\src[j]? = some (some k')/\τ k=k':=fun k b hb hl=>by
       rcases hob k b hb with⟨h1,_⟩ |⟨h1,_⟩ |⟨j,p,rfl,h2,rfl⟩ |⟨j,k',rfl,h2,_⟩
       ·exact .inl ⟨h1,hτlow k h1⟩
       ·exact .inl ⟨h1,hτlow k h1⟩
       ·have h3:=hsrcR _ _ h2
        obtain⟨e,t,l,h4,h5⟩:=outAll_rows hbx p (List.mem_of_getElem? h2)
        rcases h5 with⟨k',h5,_⟩ |⟨h5,_⟩
        ·rw[h5] at h3
         exact .inr ⟨j,k',rfl,h3,(hτ _ _ h3).1⟩
        ·rw[h5] at h3
         rw[h4] at hl
         exact absurd (hτn _ h3) hl
       ·have h3:=hsrcK _ _ h2
        exact .inr ⟨_,k',rfl,h3,(hτ _ _ h3).1⟩
      refine hs1.along τ rfl (fun b hb=>hb) (fun k b hb=>?_) (fun j k b b' hj hk hlj hlk he=>?_) hs1.frame
      ·rcases hob k b hb with⟨h1,h2⟩ |⟨h1,h2,e,t,l,rfl⟩ |⟨j,p,rfl,h2,rfl⟩ |⟨j,k',rfl,h2,h3⟩
       ·obtain⟨i',shs,cs,c,nss,_,g2,g3,rfl,g5,g6⟩:=outAll_box hbx h2
        rw[Nat.zero_add] at g3
        have h4:=hbox1 _ _ g2
        obtain⟨_,vs,ty,h5,h6⟩:=hs1.ob k _ h4
        refine⟨(hidE k h1).1,⟨vs,ty,by rw[(hidE k h1).2.1,wI (xU g3)];exact h5,?_⟩,fun _=>⟨rfl,.box cs,by rw[hτlow k h1];exact h4,trivial⟩⟩
        refine pV (E2:=E') (U2:=U') hs1 rfl hidE g3 (fun m hm=>?_) (fun j p hj=>?_) h6
        ·rw[hH1',if_pos]
         rw[<- hfz]
         exact List.mem_append_right _ (List.mem_append_left _ (g6 m hm))
        ·have hp:=g5 j p hj
         have hlt:=(List.getElem?_eq_some_iff.1 hp).1
         have hs:=hsrcR _ _ hp
         refine⟨hnewU _ (by omega),?_⟩
         cases hp1:p.1 with
         |some k' =>rw[hp1] at hs;exact (hτ _ _ hs).2
         |none=>rw[hp1] at hs;exact hτn _ hs
       ·obtain⟨g1,g2,g3⟩:=hidE k h1
        obtain⟨_,xs,g5,g6,g7⟩:=hs1.ob k _ h2
        refine⟨g1,⟨xs,by rw[g3];exact g5,g6,by rw[g2,g3];exact g7⟩,fun hl=>⟨rfl,_,by rw[hτlow k h1];exact h2,?_⟩⟩
        have hl' : E'.sv k ≠ .slice none 0 0:=hl
        rw[g3] at hl'
        show E1.sv (τ k)≠_
        rw[hτlow k h1];exact hl'
       ·have hlt:=(List.getElem?_eq_some_iff.1 h2).1
        have h3:=hsrcR _ _ h2
        obtain⟨e,t,l,h4,h5⟩:=outAll_rows hbx p (List.mem_of_getElem? h2)
        refine⟨hnewU _ (by omega),?_,fun hl=>?_⟩
        ·rw[h4]
         rcases h5 with⟨k',h5,h6⟩ |⟨h5,rfl⟩
         ·rw[h5] at h3
          have h7:=hrow1 _ _ _ _ _ h3 h6
          obtain⟨_,xs,g5,g6,g7⟩:=hs1.ob k' _ h7
          have es:=(hτ _ _ h3).2
          have er:E'.ρ (zC+j)=E1.ρ k':=by show E1.ρ (τ (zC+j))=_;rw[(hτ _ _ h3).1]
          exact⟨xs,by rw[es];exact g5,g6,by rw[es,er];exact g7⟩
         ·rw[h5] at h3
          have es:=hτn _ h3
          exact⟨[],by rw[es];exact ownR_nil w3 e t.size,rfl,.inl es⟩
        ·refine⟨rfl,?_⟩
         rw[h4] at hl
         rcases h5 with⟨k',h5,h6⟩ |⟨h5,rfl⟩
         ·rw[h5] at h3
          have h7:=hrow1 _ _ _ _ _ h3 h6
          refine⟨_,by rw[(hτ _ _ h3).1];exact h7,?_⟩
          have hl' : E'.sv (zC+j) ≠ .slice none 0 0:=hl
          rw[(hτ _ _ h3).2] at hl'
          show E1.sv (τ (zC+j))≠_
          rw[(hτ _ _ h3).1];exact hl'
         ·rw[h5] at h3
          exact absurd (hτn _ h3) hl
       ·have hlt:=(List.getElem?_eq_some_iff.1 h2).1
        have h4:=hsrcK _ _ h2
        have hk2:k'∈ks:=List.mem_of_getElem? h2
        unfold newOf at h3
        split at h3<;>try (cases h3;done)
        ·rename_i cs hcs
         cases hdat:xK (vwL S'.heap cs) with
         |false=>rw[hdat] at h3;cases h3
         |true=>
          rw[hdat,cond_true] at h3
          cases h3
          have h5:=hbox1 _ _ hcs
          obtain⟨_,vs,ty,h6,h7⟩:=hs1.ob k' _ h5
          refine⟨hnewU _ (by omega),⟨vs,ty,?_,?_⟩,fun _=>⟨rfl,.box cs,by rw[(hτ _ _ h4).1];exact h5,trivial⟩⟩
          ·show w3.heap[E1.ρ (τ (zC+(rows.length+j)))]? = _
           rw[(hτ _ _ h4).1,wI (vwL_mask S'.heap cs)];exact h6
          ·have:=fX (H:=S'.heap) hs1 cs vs (fun i hi=>by
            rw[hH1',if_pos]
            rw[<- hfz]
            refine List.mem_append_right _ (List.mem_append_right _ (List.mem_flatMap.2 ⟨k',hk2,?_⟩))
            unfold cellIds;rw[hcs];exact hi) h7
           exact pH (E:=E1) (E':=E') rfl _ _ hdat this
        ·rename_i e t l hrow
         cases h3
         have h5:=hrow1 _ _ _ _ _ h4 hrow
         obtain⟨_,xs,g5,g6,g7⟩:=hs1.ob k' _ h5
         have es:=(hτ _ _ h4).2
         have er:E'.ρ (zC+(rows.length+j))=E1.ρ k':=by show E1.ρ (τ (zC+(rows.length+j)))=_;rw[(hτ _ _ h4).1]
         refine⟨hnewU _ (by omega),⟨xs,by rw[es];exact g5,g6,by rw[es,er];exact g7⟩,fun hl=>⟨rfl,_,by rw[(hτ _ _ h4).1];exact h5,?_⟩⟩
         have hl' : E'.sv (zC+(rows.length+j)) ≠ .slice none 0 0:=hl
         rw[es] at hl'
         show E1.sv (τ (zC+(rows.length+j)))≠_
         rw[(hτ _ _ h4).1];exact hl'
        ·rename_i es hmp
         cases h3
         have h5:H1 k'=some (.mp es):=by rw[hH1',hmp];split<;>rfl
         obtain⟨_,ents,clock,g5,g6⟩:=hs1.ob k' _ h5
         have er:E'.ρ (zC+(rows.length+j))=E1.ρ k':=by show E1.ρ (τ (zC+(rows.length+j)))=_;rw[(hτ _ _ h4).1]
         exact⟨hnewU _ (by omega),⟨ents,clock,by rw[er];exact g5,g6⟩,fun _=>⟨rfl,.mp es,by rw[(hτ _ _ h4).1];exact h5,trivial⟩⟩
      ·rcases hfrom j b hj hlj with⟨h1,e1⟩ |⟨i1,k1,rfl,h1,e1⟩<;>rcases hfrom k b' hk hlk with⟨h2,e2⟩ |⟨i2,k2,rfl,h2,e2⟩
       ·rw[e1,e2] at he;exact he
       ·rw[e1,e2] at he
        have:=(hsfz k2 (somes_mem h2)).2
        rw[zO.2 (he ▸ h1)] at this;cases this
       ·rw[e1,e2] at he
        have:=(hsfz k1 (somes_mem h1)).2
        rw[zO.2 (he.symm ▸ h2)] at this;cases this
       ·rw[e1,e2] at he
        subst he
        rw[somes_inj hnod h1 h2]
     ·rcases hfr b hb with h |⟨k,hk,hbe⟩
      ·rcases hs3.fresh b h with h |h |h
       ·exact .inl h
       ·exact .inr (.inl h)
       ·exact .inr (.inr h)
      ·rcases hs3.heap.mine k hk with h |h
       ·exact .inr (.inl (hbe ▸ h))
       ·exact .inr (.inr (hbe ▸ h))
     ·rw[<- ho]
      have hrv:Rep E1 S'.used w3 r' v:=by
       rw[<- hr']
       have hrep1:=Rep.mono hle1 _ _ hrep
       cases own with
       |true=>exact hrep1
       |false=>
        refine vw_rep (H:=S'.heap) hs1 (qP ss) v (fun k hk=>?_) hrep1
        rw[hH1',if_pos]
        rw[<- hfz]
        exact List.mem_append_left _ hk
      refine ren_rep (E:=E1) (E2:=E') rfl r' v (fun k hk=>?_) hrv
      cases hb:inL ids k with
      |true=>
       simp only[cond_true]
       exact hidE k (zO.1 hb)
      |false=>
       simp only[cond_false]
       have hk' : k∈ks:=by
        rcases dedup_all (seen:=ids) hk with h |h
        ·rw[zO.2 h] at hb;cases hb
        ·rw[<- hks];exact h
       have hg:=idx_get hk'
       have hlt:=(List.getElem?_eq_some_iff.1 hg).1
       have h4:=hsrcK _ _ hg
       refine⟨hnewU _ (by omega),?_,(hτ _ _ h4).2⟩
       show E1.ρ (τ _)=_;rw[(hτ _ _ h4).1]
    ·exact hk.elim
   unfold mLeaf at hk
   split at hk
   ·rename_i ss hss
    cases e with
    |normal=>exact fin ss hss hk
    |ret=>exact fin ss hss hk
    |exit id=>exact hk.elim
    |goto l=>exact hk.elim
    |panic ch=>exact hk.elim
    |outgrown=>exact hk.elim
   ·exact hk.elim
  ·exact h.elim
 ·exact h.elim
end Go.Sx
namespace Go.Sx
open Go.RowKit
def bindK:List (Nat × Nat)->List SV->List (Nat × Nat)
 |(i,_)::r,.ptr k _::q=>(i,k)::bindK r q
 |_,_=>[]
def bindL:List Sh->List SV->List (Nat × Nat)
 |.ptr i _::r,.ptr k _::q=>(i,k)::bindL r q
 |.clo _ ks::r,.fn _ cs::q=>bindK ks cs++bindL r q
 |.rowk i _ _::r,.own k::q=>(i,k)::bindL r q
 |_::r,_::q=>bindL r q
 |_,_=>[]
def addM:List (Nat × Nat)->List (Nat × Nat)->List (Nat × Nat)
 |m,[]=>m
 |m,p::r=>bif inL (m.map (·.1)) p.1 then addM m r else addM (m++[p]) r
def vR:List (Nat × Nat)->Nat->Nat
 |(i,k)::r,j=>bif Nat.beq j i then k else vR r j
 | [],j=>j
def bindB(H:Hp):List (Nat × List Sh)->List (Nat × Nat)->List (Nat × Nat)
 | [],m=>m
 |(i,shs)::r,m=>bindB H r (match H (vR m i) with
  |some (.box cs)=>addM m (bindL shs cs)
  |_=>m)
def back:List (Nat × Nat)->Nat->Nat
 |(i,k)::r,j=>bif Nat.beq j k then i else back r j
 | [],j=>j
def jW(H:Hp)(m:List (Nat × Nat)):(l:List Sh)->List SV->Option (wM l)
 | [],[]=>some ()
 |.val t::r,v::q=>match Sh.dec (.val t) (vw H v),jW H m r q with
  |some d,some x=>some (d,x)
  |_,_=>none
 |.agg t::r,v::q=>match Sh.dec (.agg t) (vw H v),jW H m r q with
  |some d,some x=>some (d,x)
  |_,_=>none
 |.ptr i o::r,.ptr k o'::q=>match jW H m r q with
  |some x=>if Nat.beq (vR m i) k&&Nat.beq o o' then some ((),x) else none
  |_=>none
 |.fn f::r,.fn g []::q=>match jW H m r q with
  |some x=>if Nat.beq f g then some ((),x) else none
  |_=>none
 |.clo f ks::r,.fn g cs::q=>match jW H m r q with
  |some x=>if Nat.beq f g&&ptrsEq (vR m) ks cs then some ((),x) else none
  |_=>none
 |.arr t n::r,.arr t' n' l::q=>match jW H m r q with
  |some x=>if h:Ty.beq t' t=true/\Nat.beq n' n=true then some (show List t.den from (Ty.beq_eq h.1) ▸ l,x) else none
  |_=>none
 |.adr t::r,v::q=>match Sh.dec (.adr t) v,jW H m r q with
  |some d,some x=>some (d,x)
  |_,_=>none
 |.nils::r,.nils::q=>match jW H m r q with
  |some x=>some ((),x)
  |_=>none
 |.any::r,v::q=>match jW H m r q with
  |some x=>bif jU v then none else some ((),x)
  |_=>none
 |.row e t::r,v::q=>match Sh.ext H (.row e t) v,jW H m r q with
  |some d,some x=>some (d,x)
  |_,_=>none
 |.rowk i e t::r,.own k::q=>match H k,jW H m r q with
  |some (.row e' t' l),some x=>if h:(Nat.beq (vR m i) k=true/\Nat.beq e e'=true)/\Ty.beq t' t=true then some (show List t.den from (Ty.beq_eq h.2) ▸ l,x) else none
  |_,_=>none
 |_,_=>none
def grabM(H:Hp)(m:List (Nat × Nat)):List (Nat × Nat)->Option (List SV)
 |(i,n)::r=>match H (vR m i),grabM H m r with
  |some (.box cs),some q=>if Nat.beq cs.length n then some (cs++q) else none
  |_,_=>none
 | []=>some []
structure MC (P:Program) where
 f:FuncId
 L:Lay
 pre:L.den->Option Prop
 out:L.den->MOut
 mok:L.mok=true
 ent:entB P f=true
 pok:w_ L.ids L.shs=true
 ok:∀x,ndP (pre x)->qV P f L x (out x)
def updBx(m:List (Nat × Nat)):List Nat->List (List SV)->List (Nat × Option Ob)
 |i::r,cs::q=>(vR m i,some (.box cs))::updBx m r q
 |_,_=>[]
def updFx(m:List (Nat × Nat)):List Nat->List Ob->List (Nat × Option Ob)
 |i::r,o::q=>(vR m i,some o)::updFx m r q
 |_,_=>[]
def isRowOb:Ob->Bool
 |.row _ _ _=>true
 |_=>false
def pO(base:Nat):List Ob->List (Nat × Option Ob)
 |o::r=>(base,some o)::pO (base+1) r
 | []=>[]
def newOk:Ob->Bool
 |.box cs=>xK cs
 |.row _ _ _=>true
 |.mp _=>true
 |_=>false
def kJ:List Sh->List SV->List Nat
 |.row _ _::r,v::q=>(match v with
  |.own j=>[j]
  |_=>[])++kJ r q
 |_::r,_::q=>kJ r q
 |_,_=>[]
def dropU(l:List Nat):List (Nat × Option Ob):=l.map fun j=>(j,none)
def MC.con{P:Program}(c:MC P):Con:=fun args H base=>
 let m:=bindB H c.L.boxes (addM [] (bindL (c.L.slots.map (·.2)) args))
 let bids:=c.L.boxes.map (·.1)
 let fids:=yO c.L.shs
 let ids:=bids++fids
 match grabM H m c.L.kG with
 |some q=>match jW H m c.L.shs (args++q) with
  |some x=>
   let o:=c.out x
   let fx:=o.news.take fids.length
   let nw:=o.news.drop fids.length
   let f:=fun k=>bif inL ids k then vR m k else base+(k - zC)
   let known:=fun k=>inL ids k||(Nat.ble zC k&&Nat.blt (k - zC) nw.length)
   bif yN (m.map (·.2))&&yN (m.map (·.1))&&(ids.all fun i=>inL (m.map (·.1)) i)&&(m.all fun p=>inL ids p.1)&&Nat.beq o.boxes.length bids.length&&Nat.beq args.length c.L.slots.length
     && ((frzL c.L.shs (args++q)).all fun k=>!inL (m.map (·.2)) k)&&yX (frzL c.L.shs (args++q)) c.L.shs (args++q)&&((o.boxes.all fun cs=>(wX cs).all known)&&nw.all newOk&&(vW o.res).all known)
     && (Nat.beq fx.length fids.length&&fx.all isRowOb&&(fids.all fun i=>!inL bids i)&&(kJ c.L.shs (args++q)).all fun k=>!inL (m.map (·.2)) k) then
    some { need:=c.pre x,res:=jY f o.res,upd:=updBx m bids (o.boxes.map (kL f))++updFx m fids fx++pO base nw++dropU (kJ c.L.shs (args++q))++pC H (frzL c.L.shs (args++q)),news:=(List.range nw.length).map (base + ·) }
   else none
  |none=>none
 |none=>none
theorem look_mem:∀{m:List (Nat × Nat)}{i k:Nat},(m.map (·.1)).Nodup->(i,k)∈m->vR m i=k
 |(j,l)::r,i,k,hn,h=>by
  rw[List.map_cons,List.nodup_cons] at hn
  simp only[vR,zX]
  rcases List.mem_cons.1 h with h |h
  ·cases h;simp
  ·have:i≠j:=fun e=>hn.1 (e ▸ List.mem_map_of_mem (f:=(·.1)) h)
   simp only[this,decide_false,cond_false]
   exact look_mem hn.2 h
theorem back_mem:∀{m:List (Nat × Nat)}{i k:Nat},(m.map (·.2)).Nodup->(i,k)∈m->back m k=i
 |(j,l)::r,i,k,hn,h=>by
  rw[List.map_cons,List.nodup_cons] at hn
  simp only[back,zX]
  rcases List.mem_cons.1 h with h |h
  ·cases h;simp
  ·have:k≠l:=fun e=>hn.1 (e ▸ List.mem_map_of_mem (f:=(·.2)) h)
   simp only[this,decide_false,cond_false]
   exact back_mem hn.2 h
theorem wQ{E1 E2:En}{U U2:Nat->Bool}{w w0:World}{M:Nat->Prop}{H H1:Hp}{m:List (Nat × Nat)}{bs:List Nat}(hs1:HSat w0 M E1 U H1 w) (hI:E2.I=E1.I) (hb:∀i∈bs,U2 i=true/\E2.ρ i=E1.ρ (vR m i)/\E2.sv i=E1.sv (vR m i)) :
  ∀(i:Nat){l:List Sh}{svs:List SV}{x:wM l}{zM:List Value},jW H m l svs=some x->(∀k∈frzL l svs,H1 k=qU (H k))->(∀k v,pP i l svs k=some v->U2 k=true/\((∃j,v = .own j/\E2.sv k=E1.sv j)\/(v = .nils/\E2.sv k = .slice none 0 0)))->w_ bs l=true->zA E1 U w svs zM->zA E2 U2 w (z_ i l x) zM
 |i,[],[],_,_,_,_,_,_,hr=>by unfold zA at *;exact hr
 |i,.val t::r,c::q,x,zM,h,hf,hsrc,hp,hr=>by
  simp only[jW] at h
  split at h<;>try (cases h;done)
  rename_i d y hd hy
  cases h
  unfold zA at hr
  obtain⟨v,u,e,hv,hu⟩:=hr
  subst e
  refine zA.cons (Sh.dec_ok (s:=.val t) hI i hd (vw_rep hs1 c v (fun k hk=>hf k (List.mem_append_left _ hk)) hv)) ?_
  exact wQ hs1 hI hb (i+1) hy (fun k hk=>hf k (List.mem_append_right _ hk)) (fun k v hk=>hsrc k v hk) hp hu
 |i,.agg t::r,c::q,x,zM,h,hf,hsrc,hp,hr=>by
  simp only[jW] at h
  split at h<;>try (cases h;done)
  rename_i d y hd hy
  cases h
  unfold zA at hr
  obtain⟨v,u,e,hv,hu⟩:=hr
  subst e
  refine zA.cons (Sh.dec_ok (s:=.agg t) hI i hd (vw_rep hs1 c v (fun k hk=>hf k (List.mem_append_left _ hk)) hv)) ?_
  exact wQ hs1 hI hb (i+1) hy (fun k hk=>hf k (List.mem_append_right _ hk)) (fun k v hk=>hsrc k v hk) hp hu
 |i,.ptr a o::r,c::q,x,zM,h,hf,hsrc,hp,hr=>by
  simp only[w_,Bool.and_eq_true] at hp
  cases c with
  |ptr k o' =>
   simp only[jW] at h
   split at h<;>try (cases h;done)
   rename_i y hy
   split at h<;>try (cases h;done)
   rename_i he
   simp only[Bool.and_eq_true] at he
   have e1:=nbT he.1
   have e2:=nbT he.2
   subst e1 e2
   cases h
   unfold zA at hr
   obtain⟨v,u,e,hv,hu⟩:=hr
   subst e
   refine zA.cons ?_ (wQ hs1 hI hb (i+1) hy hf (fun k v hk=>hsrc k v hk) hp.2 hu)
   obtain⟨hb1,hb2,_⟩:=hb a (zO.1 hp.1)
   show Rep E2 U2 w (.ptr a o) v
   unfold Rep at hv ⊢
   exact⟨hb1,by rw[hb2];exact hv.2⟩
  |_=>cases h
 |i,.fn f::r,c::q,x,zM,h,hf,hsrc,hp,hr=>by
  cases c with
  |fn g cs=>
   cases cs with
   |nil=>
    simp only[jW] at h
    split at h<;>try (cases h;done)
    rename_i y hy
    split at h<;>try (cases h;done)
    rename_i he
    have e1:=nbT he
    subst e1
    cases h
    unfold zA at hr
    obtain⟨v,u,e,hv,hu⟩:=hr
    subst e
    exact zA.cons (zI hI (.fn f []) v rfl hv) (wQ hs1 hI hb (i+1) hy hf (fun k v hk=>hsrc k v hk) hp hu)
   |cons _ _=>cases h
  |_=>cases h
 |i,.clo f ks::r,c::q,x,zM,h,hf,hsrc,hp,hr=>by
  simp only[w_,Bool.and_eq_true,List.all_eq_true] at hp
  cases c with
  |fn g cs=>
   simp only[jW] at h
   split at h<;>try (cases h;done)
   rename_i y hy
   split at h<;>try (cases h;done)
   rename_i he
   simp only[Bool.and_eq_true] at he
   have e1:=nbT he.1
   subst e1
   cases h
   unfold zA at hr
   obtain⟨v,u,e,hv,hu⟩:=hr
   subst e
   refine zA.cons ?_ (wQ hs1 hI hb (i+1) hy hf (fun k v hk=>hsrc k v hk) hp.2 hu)
   show Rep E2 U2 w (.fn f (encK ks)) v
   unfold Rep at hv ⊢
   obtain⟨vs,hv1,hv2⟩:=hv
   exact⟨vs,hv1,ptrsEq_rep he.2 (fun p hp' =>⟨(hb p.1 (zO.1 (hp.1 p hp'))).1,(hb p.1 (zO.1 (hp.1 p hp'))).2.1⟩) hv2⟩
  |_=>cases h
 |i,.oval _::r,c::q,x,zM,h,hf,hsrc,hp,hr=>by simp[jW] at h
 |i,.any::r,c::q,x,zM,h,hf,hsrc,hp,hr=>by
  simp only[jW] at h
  split at h<;>try (cases h;done)
  rename_i y hy
  have hvc:jU c=false:=by
   cases e:jU c
   ·rfl
   ·rw[e] at h;cases h
  rw[hvc] at h
  cases h
  unfold zA at hr
  obtain⟨v,u,e,hv,hu⟩:=hr
  subst e
  exact zA.cons (by show Rep E2 U2 w .any v;unfold Rep;trivial) (wQ hs1 hI hb (i+1) hy hf (fun k v hk=>hsrc k v hk) hp hu)
 |i,.row e t::r,c::q,x,zM,h,hf,hsrc,hp,hr=>by
  simp only[jW] at h
  split at h<;>try (cases h;done)
  rename_i d y hd hy
  cases h
  unfold zA at hr
  obtain⟨v,u,e,hv,hu⟩:=hr
  subst e
  refine zA.cons ?_ (wQ hs1 hI hb (i+1) hy hf (fun k v hk=>hsrc k v ?_) hp hu)
  ·obtain⟨h1,h2⟩:=hsrc i c (by simp[pP,Nat.beq_refl])
   show Rep E2 U2 w (.own i) v
   rcases h2 with⟨j,rfl,h2⟩ |⟨rfl,h2⟩
   ·unfold Rep at hv ⊢
    exact⟨h1,by rw[h2];exact hv.2.1,hv.2.2⟩
   ·unfold Rep at hv ⊢
    exact⟨h1,by rw[h2];exact hv,by rw[hv];exact⟨_,_,_,rfl⟩⟩
  ·have:=qX hk
   have hne:k≠i:=by omega
   simp only[pP,zX,hne,decide_false,cond_false]
   exact hk
 |i,.nils::r,c::q,_,zM,h,hf,hsrc,hp,hr=>by
  cases c<;>simp only[jW] at h<;>try (cases h;done)
  split at h<;>try (cases h;done)
  rename_i hy
  cases h
  unfold zA at hr
  obtain⟨v,u,e,hv,hu⟩:=hr
  subst e
  refine zA.cons ?_ (wQ hs1 hI hb (i+1) hy hf (fun k v hk=>hsrc k v hk) hp hu)
  exact zI hI .nils v rfl hv
 |i,.adr t::r,c::q,_,zM,h,hf,hsrc,hp,hr=>by
  simp only[jW] at h
  split at h<;>try (cases h;done)
  rename_i hd hy
  cases h
  unfold zA at hr
  obtain⟨v,u,e,hv,hu⟩:=hr
  subst e
  exact zA.cons (Sh.dec_ok (s:=.adr t) hI i hd hv) (wQ hs1 hI hb (i+1) hy hf (fun k v hk=>hsrc k v hk) hp hu)
 |i,.arr t n::r,c::q,_,zM,h,hf,hsrc,hp,hr=>by
  cases c<;>simp only[jW] at h<;>try (cases h;done)
  split at h<;>try (cases h;done)
  rename_i hy
  split at h<;>try (cases h;done)
  rename_i he
  have e1:=Ty.beq_eq he.1
  have e2:=nbT he.2
  subst e1 e2
  cases h
  unfold zA at hr
  obtain⟨v,u,e,hv,hu⟩:=hr
  subst e
  refine zA.cons ?_ (wQ hs1 hI hb (i+1) hy hf (fun k v hk=>hsrc k v hk) hp hu)
  exact zI hI (.arr _ _ _) v rfl hv
 |i,.rowk a e t::r,c::q,_,zM,h,hf,hsrc,hp,hr=>by
  cases c<;>simp only[jW] at h<;>try (cases h;done)
  rename_i k
  split at h<;>try (cases h;done)
  rename_i hy
  split at h<;>try (cases h;done)
  rename_i he
  have e1:=nbT he.1.1
  cases h
  simp only[w_,Bool.and_eq_true] at hp
  unfold zA at hr
  obtain⟨v,u,e,hv,hu⟩:=hr
  subst e
  refine zA.cons ?_ (wQ hs1 hI hb (i+1) hy hf (fun k v hk=>hsrc k v hk) hp.2 hu)
  obtain⟨hb1,_,hb3⟩:=hb a (zO.1 hp.1)
  show Rep E2 U2 w (.own a) v
  unfold Rep at hv ⊢
  exact⟨hb1,by rw[hb3,e1];exact hv.2.1,hv.2.2⟩
 |i,.yld _::r,c::q,_,_,h,_,_,_,_=>by cases c<;>cases h
 |i,[],_::_,_,_,h,_,_,_,_=>by cases h
 |i,s::_,[],_,_,h,_,_,_,_=>by cases s<;>cases h
theorem yM{H:Hp}{m:List (Nat × Nat)}:∀{i:Nat}{l:List Sh}{svs:List SV}{x:wM l}{k:Nat}{o:Ob},jW H m l svs=some x->wB i l x k=some o ->
  (∃e t n v,o = .row e t n/\pP i l svs k=some v/\((∃j,v = .own j/\H j=some (.row e t n))\/(v = .nils/\n=[])))\/(k∈yO l/\H (vR m k)=some o/\∃e t n,o = .row e t n)
 |i,[],svs,x,k,o,_,h=>by cases h
 |i,s::r,[],x,k,o,h,_=>by cases s<;>cases h
 |i,.row e t::r,c::q,x,k,o,hx,h=>by
  simp only[jW] at hx
  split at hx<;>try (cases hx;done)
  rename_i d y hd hy
  cases hx
  simp only[wB,pP,zX] at h ⊢
  by_cases hk:k=i
  ·simp only[hk,decide_true,cond_true,Option.some.injEq] at h ⊢
   refine .inl ⟨e,t,d,c,h.symm,rfl,?_⟩
   simp only[Sh.ext] at hd
   split at hd<;>try (cases hd;done)
   ·rename_i j
    split at hd<;>try (cases hd;done)
    rename_i e' t' l' hj
    split at hd<;>try (cases hd;done)
    rename_i hb
    have h1:=nbT hb.1
    have h2:=Ty.beq_eq hb.2
    subst h1 h2
    cases hd
    exact .inl ⟨j,rfl,hj⟩
   ·cases hd
    exact .inr ⟨rfl,rfl⟩
  ·simp only[hk,decide_false,cond_false] at h ⊢
   exact yM hy h
 |i,.val t::r,c::q,x,k,o,hx,h=>by
  simp only[jW] at hx
  split at hx<;>try (cases hx;done)
  rename_i hy;cases hx;exact yM (i:=i+1) hy h
 |i,.agg t::r,c::q,x,k,o,hx,h=>by
  simp only[jW] at hx
  split at hx<;>try (cases hx;done)
  rename_i hy;cases hx;exact yM (i:=i+1) hy h
 |i,.ptr a b::r,c::q,x,k,o,hx,h=>by
  cases c<;>simp only[jW] at hx<;>try (cases hx;done)
  split at hx<;>try (cases hx;done)
  rename_i hy
  split at hx<;>try (cases hx;done)
  cases hx;exact yM (i:=i+1) hy h
 |i,.fn f::r,c::q,x,k,o,hx,h=>by
  cases c with
  |fn g cs=>
   cases cs with
   |nil=>
    simp only[jW] at hx
    split at hx<;>try (cases hx;done)
    rename_i hy
    split at hx<;>try (cases hx;done)
    cases hx;exact yM (i:=i+1) hy h
   |cons _ _=>cases hx
  |_=>cases hx
 |i,.clo f ks::r,c::q,x,k,o,hx,h=>by
  cases c<;>simp only[jW] at hx<;>try (cases hx;done)
  split at hx<;>try (cases hx;done)
  rename_i hy
  split at hx<;>try (cases hx;done)
  cases hx;exact yM (i:=i+1) hy h
 |i,.yld f::r,c::q,x,k,o,hx,h=>by cases c<;>cases hx
 |i,.nils::r,c::q,x,k,o,hx,h=>by
  cases c<;>simp only[jW] at hx<;>try (cases hx;done)
  split at hx<;>try (cases hx;done)
  rename_i hy
  cases hx;exact yM (i:=i+1) hy h
 |i,.adr t::r,c::q,x,k,o,hx,h=>by
  simp only[jW] at hx
  split at hx<;>try (cases hx;done)
  rename_i hd hy
  cases hx;exact yM (i:=i+1) hy h
 |i,.arr t n::r,c::q,x,k,o,hx,h=>by
  cases c<;>simp only[jW] at hx<;>try (cases hx;done)
  split at hx<;>try (cases hx;done)
  rename_i hy
  split at hx<;>try (cases hx;done)
  cases hx;exact yM (i:=i+1) hy h
 |i,.oval _::r,c::q,x,k,o,hx,h=>by simp[jW] at hx
 |i,.any::r,c::q,x,k,o,hx,h=>by
  simp only[jW] at hx
  split at hx<;>try (cases hx;done)
  rename_i hy
  cases hv:jU c
  ·rw[hv] at hx;cases hx;exact yM (i:=i+1) hy h
  ·rw[hv] at hx;cases hx
 |i,.rowk a e t::r,c::q,x,k,o,hx,h=>by
  cases c<;>simp only[jW] at hx<;>try (cases hx;done)
  rename_i k'
  split at hx<;>try (cases hx;done)
  rename_i e' t' l' y hH hy
  split at hx<;>try (cases hx;done)
  rename_i he
  have e1:=nbT he.1.1
  have e2:=nbT he.1.2
  have e3:=Ty.beq_eq he.2
  subst e2 e3
  cases hx
  simp only[wB,zX] at h
  by_cases hk:k=a
  ·simp only[hk,decide_true,cond_true,Option.some.injEq] at h
   refine .inr ⟨by rw[hk];exact List.mem_cons_self,?_,e,t',_,h.symm⟩
   rw[hk,e1,<- h]
   exact hH
  ·simp only[hk,decide_false,cond_false] at h
   rcases yM (i:=i+1) hy h with h |⟨h1,h2,h3⟩
   ·exact .inl h
   ·exact .inr ⟨List.mem_cons_of_mem _ h1,h2,h3⟩
theorem wR{H:Hp}{m:List (Nat × Nat)}:∀{l:List Sh}{svs:List SV}{x:wM l}{k:Nat},jW H m l svs=some x->k∈yO l->∃e t n,H (vR m k)=some (.row e t n)
 | [],svs,x,k,_,h=>by cases h
 |s::r,[],x,k,h,_=>by cases s<;>cases h
 |.rowk a e t::r,c::q,x,k,hx,h=>by
  cases c<;>simp only[jW] at hx<;>try (cases hx;done)
  split at hx<;>try (cases hx;done)
  rename_i e' t' l' y hH hy
  split at hx<;>try (cases hx;done)
  rename_i he
  have e1:=nbT he.1.1
  rcases List.mem_cons.1 h with rfl |h
  ·exact⟨e',t',l',by rw[e1];exact hH⟩
  ·exact wR hy h
 |.row e t::r,c::q,x,k,hx,h=>by
  simp only[jW] at hx
  split at hx<;>try (cases hx;done)
  rename_i hy
  exact wR (l:=r) hy h
 |.val t::r,c::q,x,k,hx,h=>by
  simp only[jW] at hx
  split at hx<;>try (cases hx;done)
  rename_i hy
  exact wR (l:=r) hy h
 |.agg t::r,c::q,x,k,hx,h=>by
  simp only[jW] at hx
  split at hx<;>try (cases hx;done)
  rename_i hy
  exact wR (l:=r) hy h
 |.adr t::r,c::q,x,k,hx,h=>by
  simp only[jW] at hx
  split at hx<;>try (cases hx;done)
  rename_i hy
  exact wR (l:=r) hy h
 |.oval _::r,c::q,x,k,hx,h=>by simp[jW] at hx
 |.any::r,c::q,x,k,hx,h=>by
  simp only[jW] at hx
  split at hx<;>try (cases hx;done)
  rename_i hy
  exact wR (l:=r) hy h
 |.ptr a o::r,c::q,x,k,hx,h=>by
  cases c<;>simp only[jW] at hx<;>try (cases hx;done)
  split at hx<;>try (cases hx;done)
  rename_i hy
  exact wR (l:=r) hy h
 |.nils::r,c::q,x,k,hx,h=>by
  cases c<;>simp only[jW] at hx<;>try (cases hx;done)
  split at hx<;>try (cases hx;done)
  rename_i hy
  exact wR (l:=r) hy h
 |.arr t n::r,c::q,x,k,hx,h=>by
  cases c<;>simp only[jW] at hx<;>try (cases hx;done)
  split at hx<;>try (cases hx;done)
  rename_i hy
  exact wR (l:=r) hy h
 |.fn f::r,c::q,x,k,hx,h=>by
  cases c with
  |fn g cs=>
   cases cs with
   |nil=>
    simp only[jW] at hx
    split at hx<;>try (cases hx;done)
    rename_i hy
    exact wR (l:=r) hy h
   |cons _ _=>cases hx
  |_=>cases hx
 |.clo f ks::r,c::q,x,k,hx,h=>by
  cases c<;>simp only[jW] at hx<;>try (cases hx;done)
  split at hx<;>try (cases hx;done)
  rename_i hy
  exact wR (l:=r) hy h
 |.yld f::r,c::q,x,k,hx,h=>by cases c<;>cases hx
theorem yC{H:Hp}{m:List (Nat × Nat)}:∀{i:Nat}{l:List Sh}{svs:List SV}{x:wM l}{k:Nat}{v:SV},jW H m l svs=some x->pP i l svs k=some v ->
  (∃j e t n,v = .own j/\H j=some (.row e t n)/\j∈kJ l svs)\/v = .nils
 |i,[],svs,x,k,v,_,h=>by cases svs<;>cases h
 |i,s::r,[],x,k,v,h,_=>by cases s<;>cases h
 |i,.row e t::r,c::q,x,k,v,hx,h=>by
  simp only[jW] at hx
  split at hx<;>try (cases hx;done)
  rename_i d y hd hy
  cases hx
  simp only[pP,zX] at h
  by_cases hk:k=i
  ·simp only[hk,decide_true,cond_true,Option.some.injEq] at h
   subst h
   simp only[Sh.ext] at hd
   split at hd<;>try (cases hd;done)
   ·rename_i j
    split at hd<;>try (cases hd;done)
    rename_i e' t' l' hj
    exact .inl ⟨j,e',t',l',rfl,hj,by simp[kJ]⟩
   ·exact .inr rfl
  ·simp only[hk,decide_false,cond_false] at h
   rcases yC hy h with⟨j,e',t',n,h1,h2,h3⟩ |h1
   ·exact .inl ⟨j,e',t',n,h1,h2,by simp only[kJ];exact List.mem_append_right _ h3⟩
   ·exact .inr h1
 |i,.val t::r,c::q,x,k,v,hx,h=>by
  simp only[jW] at hx
  split at hx<;>try (cases hx;done)
  rename_i hy;cases hx;exact yC (i:=i+1) (l:=r) (svs:=q) hy h
 |i,.agg t::r,c::q,x,k,v,hx,h=>by
  simp only[jW] at hx
  split at hx<;>try (cases hx;done)
  rename_i hy;cases hx;exact yC (i:=i+1) (l:=r) (svs:=q) hy h
 |i,.ptr a b::r,c::q,x,k,v,hx,h=>by
  cases c<;>simp only[jW] at hx<;>try (cases hx;done)
  split at hx<;>try (cases hx;done)
  rename_i hy
  split at hx<;>try (cases hx;done)
  cases hx;exact yC (i:=i+1) (l:=r) (svs:=q) hy h
 |i,.fn f::r,c::q,x,k,v,hx,h=>by
  cases c with
  |fn g cs=>
   cases cs with
   |nil=>
    simp only[jW] at hx
    split at hx<;>try (cases hx;done)
    rename_i hy
    split at hx<;>try (cases hx;done)
    cases hx;exact yC (i:=i+1) (l:=r) (svs:=q) hy h
   |cons _ _=>cases hx
  |_=>cases hx
 |i,.clo f ks::r,c::q,x,k,v,hx,h=>by
  cases c<;>simp only[jW] at hx<;>try (cases hx;done)
  split at hx<;>try (cases hx;done)
  rename_i hy
  split at hx<;>try (cases hx;done)
  cases hx;exact yC (i:=i+1) (l:=r) (svs:=q) hy h
 |i,.yld f::r,c::q,x,k,v,hx,h=>by cases c<;>cases hx
 |i,.nils::r,c::q,x,k,v,hx,h=>by
  cases c<;>simp only[jW] at hx<;>try (cases hx;done)
  split at hx<;>try (cases hx;done)
  rename_i hy
  cases hx;exact yC (i:=i+1) (l:=r) (svs:=q) hy h
 |i,.adr t::r,c::q,x,k,v,hx,h=>by
  simp only[jW] at hx
  split at hx<;>try (cases hx;done)
  rename_i hd hy
  cases hx;exact yC (i:=i+1) (l:=r) (svs:=q) hy h
 |i,.arr t n::r,c::q,x,k,v,hx,h=>by
  cases c<;>simp only[jW] at hx<;>try (cases hx;done)
  split at hx<;>try (cases hx;done)
  rename_i hy
  split at hx<;>try (cases hx;done)
  cases hx;exact yC (i:=i+1) (l:=r) (svs:=q) hy h
 |i,.oval _::r,c::q,x,k,v,hx,h=>by simp[jW] at hx
 |i,.any::r,c::q,x,k,v,hx,h=>by
  simp only[jW] at hx
  split at hx<;>try (cases hx;done)
  rename_i hy
  cases hv:jU c
  ·rw[hv] at hx;cases hx;exact yC (i:=i+1) (l:=r) (svs:=q) hy h
  ·rw[hv] at hx;cases hx
 |i,.rowk a e t::r,c::q,x,k,v,hx,h=>by
  cases c<;>simp only[jW] at hx<;>try (cases hx;done)
  split at hx<;>try (cases hx;done)
  rename_i hy
  split at hx<;>try (cases hx;done)
  exact yC (i:=i+1) (l:=r) (svs:=q) hy h
theorem qN{H:Hp}{m:List (Nat × Nat)}:∀(i:Nat){l:List Sh}{svs:List SV}{x:wM l},jW H m l svs=some x->(z_ i l x).map jU=svs.map jU
 |_,[],[],_,_=>rfl
 |i,[],_::_,_,h=>by cases h
 |i,s::_,[],_,h=>by cases s<;>cases h
 |i,.row e t::r,c::q,x,hx=>by
  simp only[jW] at hx
  split at hx<;>try (cases hx;done)
  rename_i d y hd hy
  cases hx
  rw[z_,List.map_cons,List.map_cons,ext_mask i hd,qN (i+1) hy]
 |i,.val t::r,c::q,x,hx=>by
  simp only[jW] at hx
  split at hx<;>try (cases hx;done)
  rename_i d y hd hy
  cases hx
  rw[z_,List.map_cons,List.map_cons,ext_mask (H:=H) i (s:=.val t) (v:=c) hd,qN (i+1) hy]
 |i,.agg t::r,c::q,x,hx=>by
  simp only[jW] at hx
  split at hx<;>try (cases hx;done)
  rename_i d y hd hy
  cases hx
  rw[z_,List.map_cons,List.map_cons,ext_mask (H:=H) i (s:=.agg t) (v:=c) hd,qN (i+1) hy]
 |i,.ptr a b::r,c::q,x,hx=>by
  cases c<;>simp only[jW] at hx<;>try (cases hx;done)
  split at hx<;>try (cases hx;done)
  rename_i hy
  split at hx<;>try (cases hx;done)
  cases hx
  rw[z_,List.map_cons,List.map_cons,qN (i+1) hy];rfl
 |i,.fn f::r,c::q,x,hx=>by
  cases c with
  |fn g cs=>
   cases cs with
   |nil=>
    simp only[jW] at hx
    split at hx<;>try (cases hx;done)
    rename_i hy
    split at hx<;>try (cases hx;done)
    cases hx
    rw[z_,List.map_cons,List.map_cons,qN (i+1) hy];rfl
   |cons _ _=>cases hx
  |_=>cases hx
 |i,.clo f ks::r,c::q,x,hx=>by
  cases c<;>simp only[jW] at hx<;>try (cases hx;done)
  split at hx<;>try (cases hx;done)
  rename_i hy
  split at hx<;>try (cases hx;done)
  cases hx
  rw[z_,List.map_cons,List.map_cons,qN (i+1) hy];rfl
 |i,.yld f::r,c::q,x,hx=>by cases c<;>cases hx
 |i,.nils::r,c::q,x,hx=>by
  cases c<;>simp only[jW] at hx<;>try (cases hx;done)
  split at hx<;>try (cases hx;done)
  rename_i hy
  cases hx
  rw[z_,List.map_cons,List.map_cons,qN (i+1) hy];rfl
 |i,.adr t::r,c::q,x,hx=>by
  simp only[jW] at hx
  split at hx<;>try (cases hx;done)
  rename_i hd hy
  cases hx
  rw[z_,List.map_cons,List.map_cons,qN (i+1) hy]
  cases c<;>first |rfl |(simp[Sh.dec] at hd)
 |i,.arr t n::r,c::q,x,hx=>by
  cases c<;>simp only[jW] at hx<;>try (cases hx;done)
  split at hx<;>try (cases hx;done)
  rename_i hy
  split at hx<;>try (cases hx;done)
  cases hx
  rw[z_,List.map_cons,List.map_cons,qN (i+1) hy];rfl
 |i,.oval _::r,c::q,x,hx=>by simp[jW] at hx
 |i,.any::r,c::q,x,hx=>by
  simp only[jW] at hx
  split at hx<;>try (cases hx;done)
  rename_i hy
  cases hv:jU c
  ·rw[hv] at hx
   cases hx
   rw[z_,List.map_cons,List.map_cons,qN (i+1) hy,hv];rfl
  ·rw[hv] at hx;cases hx
 |i,.rowk a e t::r,c::q,x,hx=>by
  cases c<;>simp only[jW] at hx<;>try (cases hx;done)
  split at hx<;>try (cases hx;done)
  rename_i hy
  split at hx<;>try (cases hx;done)
  cases hx
  rw[z_,List.map_cons,List.map_cons,qN (i+1) hy];rfl
theorem dropU_get(K:Hp):∀(l:List Nat)(k:Nat),apH K (dropU l) k=if k∈l then none else K k
 | [],k=>by simp[dropU,apH]
 |j::r,k=>by
  show (bif Nat.beq k j then none else apH K (dropU r) k)=_
  simp only[zX]
  by_cases e:k=j
  ·simp[e]
  ·simp only[e,decide_false,cond_false,List.mem_cons,false_or]
   exact dropU_get K r k
theorem grabM_rep{E1 E2:En}{U U2:Nat->Bool}{w w0:World}{M:Nat->Prop}{H:Hp}{m:List (Nat × Nat)}(hs:HSat w0 M E1 U H w):∀{bs:List (Nat × Nat)}{q:List SV},grabM H m bs=some q ->
  ∃zM,zA E1 U w q zM/\∀es,zA E2 U2 w es zM->es.map jU=q.map jU->∀k cs,lookB bs es k=some cs->k∈bs.map (·.1)/\(∃cs0,H (vR m k)=some (.box cs0))/\∃vs ty,w.heap[E1.ρ (vR m k)]? = some (.cells (List.toArray (zP cs vs)) ty (0,0))/\zA E2 U2 w cs vs
 | [],q,h=>by
  cases h
  exact⟨[],zA.nil,fun es _ _ k cs hk=>by cases hk⟩
 |(k0,n)::r,q,h=>by
  simp only[grabM] at h
  split at h<;>try (cases h;done)
  rename_i cs0 q' hk0 hq
  split at h<;>try (cases h;done)
  rename_i hn
  cases h
  obtain⟨_,vs,ty,hh,hr⟩:=hs.ob _ _ hk0
  obtain⟨zM,h1,h2⟩:=grabM_rep (E2:=E2) (U2:=U2) hs hq
  have hl:vs.length=n:=by rw[hr.length];exact nbT hn
  refine⟨vs++zM,hr.append h1,fun es he hmask k cs hk=>?_⟩
  have hnl:=nbT hn
  simp only[lookB,zX] at hk
  by_cases e:k=k0
  ·subst e
   simp only[decide_true,cond_true,Option.some.injEq] at hk
   subst hk
   have hm1:(es.take n).map jU=cs0.map jU:=by
    rw[List.map_take,hmask,List.map_append,List.take_left' (by rw[List.length_map];exact hnl)]
   refine⟨by simp,⟨_,hk0⟩,vs,ty,by rw[wI hm1];exact hh,?_⟩
   have:=he.take n
   rw[<- hl,List.take_left,hl] at this
   exact this
  ·simp only[e,decide_false,cond_false] at hk
   have:=he.drop n
   rw[<- hl,List.drop_left,hl] at this
   obtain⟨h3,h4⟩:=h2 _ this (by rw[List.map_drop,hmask,List.map_append,List.drop_left' (by rw[List.length_map];exact hnl)]) k cs hk
   exact⟨List.mem_cons_of_mem _ h3,h4⟩
theorem updBx_get{m:List (Nat × Nat)}{K:Hp}:∀{ids:List Nat}{bx:List (List SV)}(k:Nat),bx.length=ids.length->(∀i∈ids,(i,vR m i)∈m)->(m.map (·.2)).Nodup ->
  (k ∉ ids.map (vR m)/\apH K (updBx m ids bx) k=K k)\/(∃i b,i∈ids/\k=vR m i/\pW ids bx i=some b/\apH K (updBx m ids bx) k=some b)
 | [],bx,k,hl,_,_=>.inl ⟨by simp,by cases bx<;>rfl⟩
 |i::r,[],k,hl,_,_=>by simp at hl
 |i::r,cs::q,k,hl,hm,hn=>by
  have ih:=updBx_get (K:=K) (ids:=r) (bx:=q) k (by simpa using hl) (fun j hj=>hm j (List.mem_cons_of_mem _ hj)) hn
  show (_/\(bif Nat.beq k (vR m i) then some (Ob.box cs) else apH K (updBx m r q) k)=K k)\/(∃i' b,_/\_/\_/\(bif Nat.beq k (vR m i) then some (Ob.box cs) else apH K (updBx m r q) k)=some b)
  simp only[zX]
  by_cases e:k=vR m i
  ·right
   refine⟨i,.box cs,by simp,e,by simp[pW,Nat.beq_refl],by simp[e]⟩
  ·simp only[e,decide_false,cond_false]
   rcases ih with⟨h1,h2⟩ |⟨i',b,h1,h2,h3,h4⟩
   ·exact .inl ⟨by simp[e];simpa using h1,h2⟩
   ·refine .inr ⟨i',b,List.mem_cons_of_mem _ h1,h2,?_,h4⟩
    have:i'≠i:=fun he=>e (by rw[h2,he])
    simp only[pW,zX,this,decide_false,cond_false]
    exact h3
theorem updNew_get{K:Hp}:∀{ns:List Ob}{base:Nat}(k:Nat),(¬ (base<=k/\k<base+ns.length)/\apH K (pO base ns) k=K k)\/(∃j b,k=base+j/\ns[j]? = some b/\apH K (pO base ns) k=some b)
 | [],base,k=>.inl ⟨by simp,rfl⟩
 |o::r,base,k=>by
  have ih:=updNew_get (K:=K) (ns:=r) (base:=base+1) k
  show (_/\(bif Nat.beq k base then some o else apH K (pO (base+1) r) k)=K k)\/(∃j b,_/\_/\(bif Nat.beq k base then some o else apH K (pO (base+1) r) k)=some b)
  simp only[zX]
  by_cases e:k=base
  ·exact .inr ⟨0,o,by simp[e],by simp,by simp[e]⟩
  ·simp only[e,decide_false,cond_false]
   rcases ih with⟨h1,h2⟩ |⟨j,b,h1,h2,h3⟩
   ·exact .inl ⟨by simp only[List.length_cons];omega,h2⟩
   ·exact .inr ⟨j+1,b,by omega,by simpa using h2,h3⟩
theorem lookNew_of:∀{ns:List Ob}{i j:Nat}{o:Ob},ns[j]? = some o->kA i ns (i+j)=some o
 |p::r,i,0,o,h=>by simp at h;subst h;simp[kA,Nat.beq_refl]
 |p::r,i,j+1,o,h=>by
  simp only[kA,zX]
  have:i+(j+1)≠i:=by omega
  simp only[this,decide_false,cond_false]
  have:=lookNew_of (ns:=r) (i:=i+1) (j:=j) (o:=o) (by simpa using h)
  rw[show i+(j+1)=i+1+j from by omega];exact this
theorem grabM_congr{H H1:Hp}{m:List (Nat × Nat)}(h:∀k cs,H k=some (.box cs)->H1 k=some (.box cs)):∀{bs:List (Nat × Nat)}{q:List SV},grabM H m bs=some q->grabM H1 m bs=some q
 | [],q,hq=>hq
 |(k0,n)::r,q,hq=>by
  simp only[grabM] at hq ⊢
  split at hq<;>try (cases hq;done)
  rename_i cs0 q' hk0 hq'
  rw[h _ _ hk0]
  simp only[grabM_congr h hq']
  exact hq
theorem grabM_box{H:Hp}{m:List (Nat × Nat)}:∀{bs:List (Nat × Nat)}{q:List SV},grabM H m bs=some q->∀i∈bs.map (·.1),∃cs,H (vR m i)=some (.box cs)
 |(k0,n)::r,q,hq,i,hi=>by
  simp only[grabM] at hq
  split at hq<;>try (cases hq;done)
  rename_i cs0 q' hk0 hq'
  rcases List.mem_cons.1 hi with rfl |hi
  ·exact⟨cs0,hk0⟩
  ·exact grabM_box hq' i hi
 | [],_,_,_,hi=>by cases hi
theorem lookBx_none:∀{ids:List Nat}{bx:List (List SV)}{k:Nat},k ∉ ids->pW ids bx k=none
 | [],bx,k,_=>by cases bx<;>rfl
 |i::r,[],k,_=>rfl
 |i::r,c::q,k,h=>by
  simp only[pW,zX]
  have:k≠i:=fun e=>h (by simp[e])
  simp only[this,decide_false,cond_false]
  exact lookBx_none fun hm=>h (List.mem_cons_of_mem _ hm)
theorem lookBx_map{g:List SV->List SV}:∀{ids:List Nat}{bx:List (List SV)}{k:Nat}{b:Ob},pW ids (bx.map g) k=some b->∃cs,cs∈bx/\b = .box (g cs)/\pW ids bx k=some (.box cs)
 | [],bx,k,b,h=>by cases bx<;>cases h
 |i::r,[],k,b,h=>by cases h
 |i::r,c::q,k,b,h=>by
  simp only[List.map_cons,pW,zX] at h ⊢
  by_cases e:k=i
  ·simp only[e,decide_true,cond_true,Option.some.injEq] at h ⊢
   exact⟨c,by simp,h.symm,rfl⟩
  ·simp only[e,decide_false,cond_false] at h ⊢
   obtain⟨cs,h1,h2,h3⟩:=lookBx_map h
   exact⟨cs,List.mem_cons_of_mem _ h1,h2,h3⟩
theorem updFx_get{m:List (Nat × Nat)}{K:Hp}:∀{ids:List Nat}{fx:List Ob}(k:Nat),fx.length=ids.length->(∀i∈ids,(i,vR m i)∈m)->(m.map (·.2)).Nodup ->
  (k ∉ ids.map (vR m)/\apH K (updFx m ids fx) k=K k)\/(∃i b,i∈ids/\k=vR m i/\kR ids fx i=some b/\apH K (updFx m ids fx) k=some b/\b∈fx)
 | [],[],k,_,_,_=>.inl ⟨by simp,rfl⟩
 | [],_::_,k,h,_,_=>by simp at h
 |_::_,[],k,h,_,_=>by simp at h
 |i::r,o::q,k,hl,hm,hn=>by
  have ih:=updFx_get (K:=K) (ids:=r) (fx:=q) k (by simpa using hl) (fun j hj=>hm j (List.mem_cons_of_mem _ hj)) hn
  show (_/\(bif Nat.beq k (vR m i) then some o else apH K (updFx m r q) k)=K k)\/(∃i' b,_/\_/\_/\(bif Nat.beq k (vR m i) then some o else apH K (updFx m r q) k)=some b/\_)
  simp only[zX]
  by_cases e:k=vR m i
  ·refine .inr ⟨i,o,by simp,e,by simp[kR,Nat.beq_refl],by simp[e],by simp⟩
  ·simp only[e,decide_false,cond_false]
   rcases ih with⟨h1,h2⟩ |⟨i',b,h1,h2,h3,h4,h5⟩
   ·exact .inl ⟨by simp only[List.map_cons,List.mem_cons,not_or];exact⟨e,h1⟩,h2⟩
   ·refine .inr ⟨i',b,List.mem_cons_of_mem _ h1,h2,?_,h4,List.mem_cons_of_mem _ h5⟩
    have:i'≠i:=fun e' =>e (by rw[h2,e'])
    simp only[kR,zX,this,decide_false,cond_false]
    exact h3
theorem lookFx_none:∀{ids:List Nat}{fx:List Ob}{k:Nat},k ∉ ids->kR ids fx k=none
 | [],_,_,_=>rfl
 |_::_,[],_,_=>rfl
 |i::r,o::q,k,h=>by
  have:k≠i:=fun e=>h (by simp[e])
  simp only[kR,zX,this,decide_false,cond_false]
  exact lookFx_none fun hm=>h (List.mem_cons_of_mem _ hm)
theorem MC.conOk{P:Program}(c:MC P):ConOk P c.f c.con:=by
 intro args H base eff he E U w zM hs hr hnews hnd
 unfold MC.con at he
 simp only at he
 generalize hm:bindB H c.L.boxes (addM [] (bindL (c.L.slots.map (·.2)) args))=m at he
 generalize hbids:c.L.boxes.map (·.1)=bids at he
 generalize hfids:yO c.L.shs=fids at he
 generalize hids:bids++fids=ids at he
 split at he<;>try (cases he;done)
 rename_i q hq
 split at he<;>try (cases he;done)
 rename_i x hx
 generalize hfx0:(c.out x).news.take fids.length=fx at he
 generalize hnw0:(c.out x).news.drop fids.length=nw at he
 generalize hkn:(fun k=>inL ids k||(Nat.ble zC k&&Nat.blt (k - zC) nw.length))=known at he
 generalize hfd:(fun k=>bif inL ids k then vR m k else base+(k - zC))=f at he
 generalize hcond:(yN (m.map (·.2))&&yN (m.map (·.1))&&(ids.all fun i=>inL (m.map (·.1)) i)&&(m.all fun p=>inL ids p.1)&&Nat.beq (c.out x).boxes.length bids.length&&Nat.beq args.length c.L.slots.length
     && ((frzL c.L.shs (args++q)).all fun k=>!inL (m.map (·.2)) k)&&yX (frzL c.L.shs (args++q)) c.L.shs (args++q)&&(((c.out x).boxes.all fun cs=>(wX cs).all known)&&nw.all newOk&&(vW (c.out x).res).all known)
     && (Nat.beq fx.length fids.length&&fx.all isRowOb&&(fids.all fun i=>!inL bids i)&&(kJ c.L.shs (args++q)).all fun k=>!inL (m.map (·.2)) k))=cond at he
 cases cond with
 |false=>cases he
 |true=>
 rw[cond_true] at he
 cases he
 rw[Bool.and_eq_true] at hcond
 obtain⟨hcond,hcond3⟩:=hcond
 simp only[Bool.and_eq_true,List.all_eq_true,Bool.not_eq_true'] at hcond3
 obtain⟨⟨⟨hfxl,hfxr⟩,hdis⟩,hrm⟩:=hcond3
 have hfxl:=nbT hfxl
 rw[Bool.and_eq_true] at hcond
 obtain⟨hcond,hcond2⟩:=hcond
 rw[Bool.and_eq_true,Bool.and_eq_true] at hcond2
 obtain⟨⟨hbdat,hnok⟩,hres⟩:=hcond2
 rw[List.all_eq_true] at hres hnok hbdat
 simp only[Bool.and_eq_true] at hcond
 obtain⟨⟨⟨⟨⟨⟨⟨hn2,hn1⟩,hdom⟩,hsub⟩,hbl⟩,hal⟩,hfzm⟩,hokr⟩:=hcond
 rw[List.all_eq_true] at hdom hsub hfzm
 have hn2:=nodupB_iff hn2
 have hn1:=nodupB_iff hn1
 have hbl:=nbT hbl
 have hal:=nbT hal
 have hmok:=c.mok
 simp only[Lay.mok,Bool.and_eq_true,List.isEmpty_iff] at hmok
 obtain⟨⟨⟨hrb,hrecs⟩,hlow⟩,hflow⟩:=hmok
 have hrb:=Nat.le_of_ble_eq_true hrb
 unfold v_ at hrb
 rw[List.all_eq_true] at hlow hflow
 have hidlow:∀i∈ids,i<zC:=fun i hi=>by
  rw[<- hids] at hi
  rcases List.mem_append.1 hi with hi |hi
  ·rw[<- hbids] at hi
   obtain⟨b,hb,rfl⟩:=List.mem_map.1 hi
   simpa[Nat.blt_eq] using hlow b hb
  ·rw[<- hfids] at hi
   simpa[Nat.blt_eq] using hflow i hi
 have hbi:∀i∈bids,i∈ids:=fun i hi=>by rw[<- hids];exact List.mem_append_left _ hi
 have hfi:∀i∈fids,i∈ids:=fun i hi=>by rw[<- hids];exact List.mem_append_right _ hi
 have hmem:∀i∈ids,(i,vR m i)∈m:=fun i hi=>by
  obtain⟨p,hp,rfl⟩:=List.mem_map.1 (zO.1 (hdom i hi))
  rw[look_mem hn1 (i:=p.1) (k:=p.2) hp];exact hp
 have hback:∀i∈ids,back m (vR m i)=i:=fun i hi=>back_mem hn2 (hmem i hi)
 have hLids:c.L.ids=ids:=by unfold Lay.ids;rw[hrecs,hfids,hbids,<- hids];simp
 have hsz:c.L.kG.map (·.1)=bids:=by unfold Lay.kG;rw[List.map_map,<- hbids];rfl
 have hinm:∀i∈ids,inL (m.map (·.2)) (vR m i)=true:=fun i hi=>zO.2 (List.mem_map.2 ⟨_,hmem i hi,rfl⟩)
 -- plain data are given up
 generalize hfz:frzL c.L.shs (args++q)=fz at *
 obtain⟨E1,hle1,hs1,hfr⟩:=hs.wC fz E H
 generalize hH1:(fun k=>if k∈fz then qU (H k) else H k)=H1 at hs1
 have hH1' : ∀k,H1 k=if k∈fz then qU (H k) else H k:=fun k=>by rw[<- hH1]
 have hbox1:∀k cs,H k=some (.box cs)->H1 k=some (.box cs):=fun k cs h=>by
  rw[hH1',h];split<;>rfl
 have hq1:=grabM_congr hbox1 hq
 have hfix1:∀i∈ids,∀o,H (vR m i)=some o->H1 (vR m i)=some o:=fun i hi o h=>by
  rw[hH1',if_neg]
  ·exact h
  ·intro hm
   have:=hfzm _ hm
   rw[hinm i hi] at this;cases this
 generalize hsrc:pP c.L.rb c.L.shs (args++q)=src
 have hsrcge:∀k v,src k=some v->c.L.rb<=k/\k∈jC c.L.rb c.L.shs:=fun k v h=>by
  rw[<- hsrc] at h;exact⟨qX h,yF h⟩
 have hsrcid:∀k∈ids,src k=none:=fun k hk=>by
  cases h:src k with
  |none=>rfl
  |some v=>
   have h1:=(hsrcge k v h).1
   have h2:=hidlow k hk
   unfold zC at h2;omega
 let Ec:En:=⟨fun i=>match src i with
  |some (.own j)=>E1.ρ j
  |_=>E1.ρ (vR m i),fun i=>match src i with
  |some (.own j)=>E1.sv j
  |some .nils=>.slice none 0 0
  |_=>E1.sv (vR m i),E1.I,E1.rc⟩
 have hEid:∀i∈ids,Ec.ρ i=E1.ρ (vR m i)/\Ec.sv i=E1.sv (vR m i):=fun i hi=>by
  simp only[Ec,hsrcid i hi,and_self]
 have hEown:∀k j,src k=some (.own j)->Ec.ρ k=E1.ρ j/\Ec.sv k=E1.sv j:=fun k j h=>by
  simp only[Ec,h,and_self]
 have hEnil:∀k,src k=some .nils->Ec.sv k = .slice none 0 0:=fun k h=>by
  simp only[Ec,h]
 have hused:∀k,(c.L.st noU x).used k=true↔(k∈ids\/k∈jC c.L.rb c.L.shs):=fun k=>by
  show usd noU (c.L.ids++jC c.L.rb c.L.shs) k=true↔_
  unfold usd
  rw[hLids]
  simp only[Bool.false_or]
  rw[zO,List.mem_append]
 obtain⟨bvals,hb1,hb2⟩:=grabM_rep (E2:=Ec) (U2:=(c.L.st noU x).used) hs1 hq1
 have hvl:=hr.length
 have hrep:=wQ (E2:=Ec) (U2:=(c.L.st noU x).used) (bs:=c.L.ids) hs1 rfl (fun i hi=>⟨(hused i).2 (.inl (hLids ▸ hi)),hEid i (hLids ▸ hi)⟩) c.L.rb hx (fun k hk=>by rw[hH1',if_pos (hfz ▸ hk)])
  (fun k v hk=>by
   rcases yC hx hk with⟨j,_,_,_,rfl,_⟩ |rfl
   ·rw[hsrc] at hk
    exact⟨(hused k).2 (.inr (hsrcge k _ hk).2),.inl ⟨j,rfl,(hEown k j hk).2⟩⟩
   ·rw[hsrc] at hk
    exact⟨(hused k).2 (.inr (hsrcge k _ hk).2),.inr ⟨rfl,hEnil k hk⟩⟩) c.pok ((zA.mono hle1 _ _ hr).append hb1)
 have hpar:zA Ec (c.L.st noU x).used w (c.L.params x) zM:=by
  have:=hrep.take c.L.slots.length
  rwa [List.take_left' (by omega)] at this
 have hbe:=hb2 ((z_ c.L.rb c.L.shs x).drop c.L.slots.length) (by
  have:=hrep.drop c.L.slots.length
  rwa [List.drop_left' (by omega)] at this) (by rw[List.map_drop,qN c.L.rb hx,List.map_append,List.drop_left' (by rw[List.length_map];omega)])
 have hH0:∀k o,(c.L.st noU x).heap k=some o ->
   (k∈ids/\∃cs cs0,o = .box cs/\H1 (vR m k)=some (.box cs0)/\∃vs ty,w.heap[E1.ρ (vR m k)]? = some (.cells (List.toArray (zP cs vs)) ty (0,0))/\zA Ec (c.L.st noU x).used w cs vs) \/
   (k∈ids/\∃e t l,o = .row e t l/\H1 (vR m k)=some (.row e t l)) \/
   (∃e t l v,o = .row e t l/\src k=some v/\((∃j,v = .own j/\H1 j=some (.row e t l)/\j∈kJ c.L.shs (args++q))\/(v = .nils/\l=[]))):=by
  intro k o hk
  replace hk:(match lookB c.L.kG ((z_ c.L.rb c.L.shs x).drop c.L.slots.length) k with
   |some cs=>some (.box cs)
   |none=>match lookR c.L.recs k with
    |some o=>some o
    |none=>wB c.L.rb c.L.shs x k)=some o:=hk
  split at hk
  ·rename_i cs hcs
   cases hk
   obtain⟨h1,⟨cs0,h2⟩,vs,ty,h3,h4⟩:=hbe k cs hcs
   rw[hsz] at h1
   exact .inl ⟨hbi k h1,cs,cs0,rfl,h2,vs,ty,h3,h4⟩
  ·rw[hrecs] at hk
   rcases yM hx (show wB c.L.rb c.L.shs x k=some o from hk) with⟨e,t,l,v,h1,h2,h3⟩ |⟨h1,h2,e,t,l,rfl⟩
   case inr=>exact .inr (.inl ⟨hfi k (hfids ▸ h1),e,t,l,rfl,hfix1 k (hfi k (hfids ▸ h1)) _ h2⟩)
   refine .inr (.inr ⟨e,t,l,v,h1,hsrc ▸ h2,?_⟩)
   rcases h3 with⟨j,rfl,h4⟩ |h3
   ·refine .inl ⟨j,rfl,?_,?_⟩
    ·rw[hH1',if_neg (jN hokr h2)];exact h4
    ·rcases yC hx h2 with⟨j',_,_,_,h5,_,h6⟩ |h5
     ·cases h5;exact h6
     ·cases h5
   ·exact .inr h3
 let τ0:Nat->Nat:=fun k=>match src k with
  |some (.own j)=>j
  |_=>vR m k
 have hτ0i:∀i∈ids,τ0 i=vR m i:=fun i hi=>by simp only[τ0,hsrcid i hi]
 have hτ0r:∀k j,src k=some (.own j)->τ0 k=j:=fun k j h=>by simp only[τ0,h]
 have hc0:HSat w (fun _=>True) Ec (c.L.st noU x).used (c.L.st noU x).heap w:=by
  refine hs1.along τ0 rfl (fun _ _=>trivial) (fun k o ho=>?_) (fun j k o o' hj hk hlj hlk he=>?_) (Frm.refl w _)
  ·rcases hH0 k o ho with⟨h1,cs,cs0,rfl,h2,vs,ty,h3,h4⟩ |⟨h1,e,t,l,rfl,h2⟩ |⟨e,t,l,v,rfl,h2,h3⟩
   ·refine⟨(hused k).2 (.inl h1),⟨vs,ty,by rw[(hEid k h1).1];exact h3,h4⟩,fun _=>⟨by rw[hτ0i k h1];exact (hEid k h1).1,_,by rw[hτ0i k h1];exact h2,by trivial⟩⟩
   ·obtain⟨_,xs,g1,g2,g3⟩:=hs1.ob _ _ h2
    obtain⟨e1,e2⟩:=hEid k h1
    refine⟨(hused k).2 (.inl h1),⟨xs,by rw[e2];exact g1,g2,by rw[e1,e2];exact g3⟩,fun hl=>⟨by rw[hτ0i k h1];exact e1,_,by rw[hτ0i k h1];exact h2,?_⟩⟩
    have hl' : Ec.sv k ≠ .slice none 0 0:=hl
    rw[e2] at hl'
    show E1.sv (τ0 k)≠_
    rw[hτ0i k h1];exact hl'
   ·refine⟨(hused k).2 (.inr (hsrcge k v h2).2),?_,fun hl=>?_⟩
    ·rcases h3 with⟨j,rfl,h4,_⟩ |⟨rfl,rfl⟩
     ·obtain⟨_,xs,g1,g2,g3⟩:=hs1.ob j _ h4
      obtain⟨e1,e2⟩:=hEown k j h2
      exact⟨xs,by rw[e2];exact g1,g2,by rw[e1,e2];exact g3⟩
     ·have e2:=hEnil k h2
      exact⟨[],by rw[e2];exact ownR_nil w e t.size,rfl,.inl e2⟩
    ·rcases h3 with⟨j,rfl,h4,_⟩ |⟨rfl,rfl⟩
     ·obtain⟨e1,e2⟩:=hEown k j h2
      refine⟨by rw[hτ0r k j h2];exact e1,_,by rw[hτ0r k j h2];exact h4,?_⟩
      have hl' : Ec.sv k ≠ .slice none 0 0:=hl
      rw[e2] at hl'
      show E1.sv (τ0 k)≠_
      rw[hτ0r k j h2];exact hl'
     ·exact absurd (hEnil k h2) hl
  ·have key:∀k o,(c.L.st noU x).heap k=some o->o.live Ec k->(k∈ids/\τ0 k=vR m k)\/(∃j,src k=some (.own j)/\τ0 k=j/\j∈kJ c.L.shs (args++q)):=by
    intro k o ho hl
    rcases hH0 k o ho with⟨h1,cs,cs0,rfl,h2,_⟩ |⟨h1,_⟩ |⟨e,t,l,v,rfl,h2,h3⟩
    ·exact .inl ⟨h1,hτ0i k h1⟩
    ·exact .inl ⟨h1,hτ0i k h1⟩
    ·rcases h3 with⟨j,rfl,h4,h5⟩ |⟨rfl,rfl⟩
     ·exact .inr ⟨j,h2,hτ0r k j h2,h5⟩
     ·exact absurd (hEnil k h2) hl
   rcases key j o hj hlj with⟨h1,e1⟩ |⟨j1,h1,e1,b1⟩<;>rcases key k o' hk hlk with⟨h2,e2⟩ |⟨j2,h2,e2,b2⟩
   ·rw[e1,e2] at he
    rw[<- hback j h1,<- hback k h2,he]
   ·rw[e1,e2] at he
    have:=hrm _ b2
    rw[<- he,hinm j h1] at this;cases this
   ·rw[e1,e2] at he
    have:=hrm _ b1
    rw[he,hinm k h2] at this;cases this
   ·rw[e1,e2] at he
    subst he
    rw[<- hsrc] at h1 h2
    exact vF hokr h1 h2
 have hc:=hc0.restr (fun _=>true)
 rw[rs_all] at hc
 refine (c.ok x hnd Ec w zM hc hpar).mono ?_
 rintro e w' ⟨v,rfl,E',U',hle',h',hI',hrep'⟩
 refine⟨v,rfl,?_⟩
 have hnewU:∀k,base<=k->k<base+nw.length->U k=false:=fun k h1 h2=>
  hnews k (List.mem_map.2 ⟨k - base,List.mem_range.2 (by omega),by show base+(k - base)=k;omega⟩)
 generalize hnw:(List.range nw.length).map (base + ·)=news
 have hmemn:∀k,k∈news↔base<=k/\k<base+nw.length:=fun k=>by
  rw[<- hnw,List.mem_map]
  constructor
  ·rintro⟨j,hj,rfl⟩
   have:=List.mem_range.1 hj
   exact⟨by omega,by omega⟩
  ·rintro⟨h1,h2⟩
   exact⟨k - base,List.mem_range.2 (by omega),by omega⟩
 have hapU:∀k,apU U news k=true↔(U k=true\/k∈news):=fun k=>by
  unfold apU
  rw[Bool.or_eq_true,show news.any (Nat.beq k)=inL news k from rfl,zO]
 let E2:En:=⟨fun k=>if base<=k/\k<base+nw.length then E'.ρ (zC+(k - base)) else E1.ρ k,fun k=>if base<=k/\k<base+nw.length then E'.sv (zC+(k - base)) else E1.sv k,E'.I,E1.rc⟩
 have hold:∀k,U k=true->¬ (base<=k/\k<base+nw.length):=fun k hk h=>by
  rw[hnewU k h.1 h.2] at hk;cases hk
 have hleE:En.Le U (apU U news) E1 E2 w w':=⟨fun k hk=>(hapU k).2 (.inl hk),fun k hk=>if_neg (hold k hk),fun k hk=>if_neg (hold k hk),hle'.imm,hle'.heap,fun _ _=>rfl⟩
 have hboxes:∀i∈ids,∃o0,H1 (vR m i)=some o0:=fun i hi=>by
  rw[<- hids] at hi
  rcases List.mem_append.1 hi with hi |hi
  ·obtain⟨cs0,h⟩:=grabM_box hq1 i (hsz ▸ hi)
   exact⟨_,h⟩
  ·obtain⟨e,t,n,h⟩:=wR hx (hfids ▸ hi)
   exact⟨_,hfix1 i (hfi i hi) _ h⟩
 have hUm:∀i∈ids,U (vR m i)=true:=fun i hi=>by
  obtain⟨o0,h⟩:=hboxes i hi
  exact (hs1.ob _ _ h).1
 generalize hrs:kJ c.L.shs (args++q)=rsrc at *
 let ids2:Nat->Bool:=fun k=>inL (ids.map (vR m)++rsrc) k
 have hM:∀b,Mof Ec (c.L.st noU x).heap b->Mof E1 (rs H1 ids2) b:=by
  rintro b ⟨i,⟨o,ho,hl⟩,hbe⟩
  rcases hH0 i o ho with⟨h1,cs,cs0,rfl,h2,_⟩ |⟨h1,e,t,l,rfl,h2⟩ |⟨e,t,l,v,rfl,h2,h3⟩
  ·refine⟨vR m i,⟨.box cs0,?_,trivial⟩,by rw[<- hbe,(hEid i h1).1]⟩
   unfold rs
   rw[show ids2 (vR m i)=true from zO.2 (List.mem_append_left _ (List.mem_map_of_mem h1)),cond_true]
   exact h2
  ·obtain⟨e1,e2⟩:=hEid i h1
   refine⟨vR m i,⟨.row e t l,?_,?_⟩,by rw[<- hbe,e1]⟩
   ·unfold rs
    rw[show ids2 (vR m i)=true from zO.2 (List.mem_append_left _ (List.mem_map_of_mem h1)),cond_true]
    exact h2
   ·have hl' : Ec.sv i ≠ .slice none 0 0:=hl
    rw[e2] at hl'
    exact hl'
  ·rcases h3 with⟨j,rfl,h4,h5⟩ |⟨rfl,rfl⟩
   ·obtain⟨e1,e2⟩:=hEown i j h2
    refine⟨j,⟨.row e t l,?_,?_⟩,by rw[<- hbe,e1]⟩
    ·unfold rs
     rw[show ids2 j=true from zO.2 (List.mem_append_right _ h5),cond_true]
     exact h4
    ·have hl' : Ec.sv i ≠ .slice none 0 0:=hl
     rw[e2] at hl'
     exact hl'
   ·exact absurd (hEnil i h2) hl
 have hcl:∀k b,apH (rs H1 ids2) (updBx m bids ((c.out x).boxes.map (kL f))++updFx m fids fx++pO base nw++dropU rsrc) k=some b ->
   (∃i cs,i∈ids/\k=vR m i/\b = .box (kL f cs)/\cs∈(c.out x).boxes/\((c.out x).heap c.L) i=some (.box cs))\/(∃i,i∈ids/\k=vR m i/\((c.out x).heap c.L) i=some b/\isRowOb b=true)\/(∃j,k=base+j/\j<nw.length/\((c.out x).heap c.L) (zC+j)=some b/\newOk b=true):=by
  intro k b hk
  rw[k_,k_,k_] at hk
  rcases updBx_get (K:=apH (apH (apH (rs H1 ids2) (dropU rsrc)) (pO base nw)) (updFx m fids fx)) k (bx:=(c.out x).boxes.map (kL f)) (by rw[List.length_map];exact hbl) (fun i hi=>hmem i (hbi i hi)) hn2 with⟨h1,h2⟩ |⟨i,b',h1,h2,h3,h4⟩
  ·rw[h2] at hk
   rcases updFx_get (K:=apH (apH (rs H1 ids2) (dropU rsrc)) (pO base nw)) k hfxl (fun i hi=>hmem i (hfi i hi)) hn2 with⟨h1',h2'⟩ |⟨i,b',g1,g2,g3,g4,g5⟩
   ·rw[h2'] at hk
    rcases updNew_get (K:=apH (rs H1 ids2) (dropU rsrc)) (ns:=nw) (base:=base) k with⟨h3,h4⟩ |⟨j,b',h3,h4,h5⟩
    ·rw[h4,dropU_get] at hk
     split at hk
     ·cases hk
     ·rename_i hnr
      unfold rs at hk
      cases hi:ids2 k with
      |true=>
       rcases List.mem_append.1 (zO.1 hi) with h |h
       ·rw[<- hids,List.map_append] at h
        rcases List.mem_append.1 h with h |h
        ·exact absurd h h1
        ·exact absurd h h1'
       ·exact absurd h hnr
      |false=>rw[hi] at hk;cases hk
    ·rw[h5] at hk
     cases hk
     have hlt:=(List.getElem?_eq_some_iff.1 h4).1
     refine .inr (.inr ⟨j,h3,hlt,?_,hnok _ (List.mem_of_getElem? h4)⟩)
     unfold MOut.heap
     rw[hbids,hfids,lookBx_none (fun hm=>by have:=hidlow _ (hbi _ hm);omega),lookFx_none (fun hm=>by have:=hidlow _ (hfi _ hm);omega),hnw0]
     exact lookNew_of h4
   ·rw[g4] at hk
    cases hk
    refine .inr (.inl ⟨i,hfi i g1,g2,?_,hfxr _ g5⟩)
    unfold MOut.heap
    rw[hbids,hfids,lookBx_none (fun hm=>by have:=hdis i g1;rw[zO.2 hm] at this;cases this),hfx0,g3]
  ·rw[h4] at hk
   cases hk
   obtain⟨cs,h5,h6,h7⟩:=lookBx_map h3
   refine .inl ⟨i,cs,hbi i h1,h2,h6,h5,?_⟩
   unfold MOut.heap
   rw[hbids,h7]
 let τ:Nat->Nat:=fun k=>if base<=k/\k<base+nw.length then zC+(k - base) else back m k
 have hτi:∀i∈ids,τ (vR m i)=i/\E2.ρ (vR m i)=E'.ρ i/\E2.sv (vR m i)=E'.sv i:=fun i hi=>by
  have hno:=hold _ (hUm i hi)
  refine⟨by simp only[τ,if_neg hno];exact hback i hi,?_,?_⟩
  ·show (if _ then _ else _)=_
   rw[if_neg hno,hle'.rho i ((hused i).2 (.inl hi)),(hEid i hi).1]
  ·show (if _ then _ else _)=_
   rw[if_neg hno,hle'.sv i ((hused i).2 (.inl hi)),(hEid i hi).2]
 have hτn:∀j,j<nw.length->τ (base+j)=zC+j/\E2.ρ (base+j)=E'.ρ (zC+j)/\E2.sv (base+j)=E'.sv (zC+j):=fun j hj=>by
  have hyes:base<=base+j/\base+j<base+nw.length:=⟨by omega,by omega⟩
  have e:base+j - base=j:=by omega
  refine⟨by simp only[τ,if_pos hyes,e],?_,?_⟩
  ·show (if _ then _ else _)=_
   rw[if_pos hyes,e]
  ·show (if _ then _ else _)=_
   rw[if_pos hyes,e]
 have hknown:∀k,known k=true->apU U news (f k)=true/\E2.ρ (f k)=E'.ρ k/\E2.sv (f k)=E'.sv k:=fun k hk=>by
  rw[<- hkn] at hk
  rw[<- hfd]
  simp only at hk ⊢
  cases hb:inL ids k with
  |true=>
   have hk':=zO.1 hb
   simp only[cond_true]
   exact⟨(hapU _).2 (.inl (hUm k hk')),(hτi k hk').2.1,(hτi k hk').2.2⟩
  |false=>
   rw[hb,Bool.false_or,Bool.and_eq_true] at hk
   have h5:=Nat.le_of_ble_eq_true hk.1
   have h6:k - zC<nw.length:=by simpa[Nat.blt_eq] using hk.2
   simp only[cond_false]
   obtain⟨t1,t2,t3⟩:=hτn (k - zC) h6
   rw[t2,t3,show zC+(k - zC)=k from by omega]
   exact⟨(hapU _).2 (.inr ((hmemn _).2 ⟨by omega,by omega⟩)),rfl,rfl⟩
 have hobr:∀k i b,newOk b=true->E2.ρ k=E'.ρ i->E2.sv k=E'.sv i->pJ E' U' w' i b->pJ E2 (apU U news) w' k b:=by
  intro k i b hb h1 h2 hr
  cases b with
  |box cs=>
   obtain⟨vs,ty,h3,h4⟩:=hr
   exact⟨vs,ty,by rw[h1];exact h3,pH (E:=E') (E':=E2) rfl _ _ hb h4⟩
  |row e t l=>
   obtain⟨xs,h3,h4,h5⟩:=hr
   exact⟨xs,by rw[h2];exact h3,h4,by rw[h1,h2];exact h5⟩
  |frz t l=>cases hb
  |clip t l=>cases hb
  |rnd p=>cases hb
  |hole e vs ii x=>cases hb
  |nw x t l=>cases hb
  |mp es=>
   obtain⟨ents,clock,h3,h4⟩:=hr
   exact⟨ents,clock,by rw[h1];exact h3,h4⟩
 have h2:HSat w (Mof E1 (rs H1 ids2)) E2 (apU U news) (apH (rs H1 ids2) (updBx m bids ((c.out x).boxes.map (kL f))++updFx m fids fx++pO base nw++dropU rsrc)) w':=by
  refine h'.along τ rfl hM (fun k b hk=>?_) (fun j k b b' hj hk _ _ he=>?_) ⟨h'.frame.os,h'.frame.tape,h'.frame.output,h'.frame.size,h'.frame.drawn,fun b hb hm=>h'.frame.block b hb fun hx=>hm (hM b hx)⟩
  ·rcases hcl k b hk with⟨i,cs,h1,rfl,rfl,h2,h3⟩ |⟨i,h1,rfl,h3,h4⟩ |⟨j,rfl,h1,h3,h4⟩
   ·obtain⟨t1,t2,t3⟩:=hτi i h1
    obtain⟨_,vs,ty,g1,g2⟩:=h'.ob i _ h3
    refine⟨(hapU _).2 (.inl (hUm i h1)),⟨vs,ty,by rw[t2,wI (renL_mask f cs)];exact g1,?_⟩,fun _=>⟨by rw[t1,t2],.box cs,by rw[t1];exact h3,trivial⟩⟩
    exact ren_repL (E:=E') (E2:=E2) rfl cs vs (fun k hk=>hknown k (List.all_eq_true.1 (hbdat cs h2) k hk)) g2
   ·obtain⟨t1,t2,t3⟩:=hτi i h1
    cases b with
    |row e t l=>
     refine⟨(hapU _).2 (.inl (hUm i h1)),hobr _ i _ rfl t2 t3 (h'.ob _ _ h3).2,fun hl=>⟨by rw[t1,t2],_,by rw[t1];exact h3,?_⟩⟩
     rw[t1]
     have hl' : E2.sv (vR m i) ≠ .slice none 0 0:=hl
     rw[t3] at hl'
     exact hl'
    |box cs=>cases h4
    |frz t l=>cases h4
    |clip t l=>cases h4
    |rnd p=>cases h4
    |hole e vs ii x=>cases h4
    |nw x t l=>cases h4
    |mp es=>cases h4
   ·obtain⟨t1,t2,t3⟩:=hτn j h1
    refine⟨(hapU _).2 (.inr ((hmemn _).2 ⟨by omega,by omega⟩)),hobr _ (zC+j) _ h4 t2 t3 (h'.ob _ _ h3).2,fun hl=>⟨by rw[t1,t2],_,by rw[t1];exact h3,?_⟩⟩
    rw[t1]
    cases b with
    |box cs=>trivial
    |row e t l=>
     have hl' : E2.sv (base+j) ≠ .slice none 0 0:=hl
     rw[t3] at hl'
     exact hl'
    |frz t l=>cases h4
    |hole e vs ii x=>cases h4
    |nw x t l=>cases h4
    |clip t l=>cases h4
    |rnd p=>cases h4
    |mp es=>trivial
  ·have nm:∀k b,apH (rs H1 ids2) (updBx m bids ((c.out x).boxes.map (kL f))++updFx m fids fx++pO base nw++dropU rsrc) k=some b->(∃i,i∈ids/\k=vR m i)\/(∃j,k=base+j/\j<nw.length):=fun k b hk=>by
    rcases hcl k b hk with⟨i,_,h1,h2,_⟩ |⟨i,h1,h2,_⟩ |⟨j,h1,h2,_⟩
    ·exact .inl ⟨i,h1,h2⟩
    ·exact .inl ⟨i,h1,h2⟩
    ·exact .inr ⟨j,h1,h2⟩
   rcases nm j b hj with⟨i,h1,rfl⟩ |⟨j1,rfl,h1⟩<;>rcases nm k b' hk with⟨i',h2,rfl⟩ |⟨j2,rfl,h2⟩
   ·rw[(hτi i h1).1,(hτi i' h2).1] at he;rw[he]
   ·rw[(hτi i h1).1,(hτn j2 h2).1] at he
    have:=hidlow i h1;omega
   ·rw[(hτn j1 h1).1,(hτi i' h2).1] at he
    have:=hidlow i' h2;omega
   ·rw[(hτn j1 h1).1,(hτn j2 h2).1] at he;omega
 have hI2:vZ E1 E2 (rs H1 ids2) w:=fun b hb=>by
  rcases hI' b hb with h |h |h
  ·exact .inl h
  ·exact .inr (.inl (hM b h))
  ·exact .inr (.inr h)
 obtain⟨h3,h4⟩:=hs1.frameRule ids2 hleE h2 hI2
 refine⟨E2,hle1.trans hleE,HSat.congr ?_ h3,fun b hb=>?_,?_⟩
 ·rw[k_ H]
  congr 1
  funext k
  rw[frzUpd_at,hH1']
 ·rcases h4 b hb with h |⟨k,hk,hbe⟩ |h
  ·rcases hfr b h with h |h
   ·exact .inl h
   ·exact .inr (.inl h)
  ·rcases hs1.mine k hk with h |h
   ·exact .inr (.inl (hbe ▸ h))
   ·exact .inr (.inr (hbe ▸ h))
  ·exact .inr (.inr h)
 ·exact ren_rep (E:=E') (E2:=E2) rfl _ v (fun k hk=>hknown k (hres k hk)) hrep'
def MC.gc{P:Program}(c:MC P):GC P:={ f:=c.f,con:=c.con,ent:=c.ent,ok:=c.conOk }
def PC.gc{P:Program}(c:PC P):GC P:={ f:=c.f,con:=c.con,ent:=c.ent,ok:=c.conOk }
end Go.Sx
namespace Go.Sx
open Go.RowKit
def tyChk(P:Program):Nat->TypeId->Option Ty
 |0,_=>none
 |d+1,t=>match P.underlying t with
  |some (.int k)=>some (.int k)
  |some .bool=>some .bool
  |some .string=>some .str
  |some (.slice e)=>match tyChk P d e with
   |some ty=>if Nat.ble 1 ty.size&&Nat.beq (P.cellsOf e) ty.size then some (.sl ty) else none
   |none=>none
  |some (.struct fs)=>match flds (tyChk P d) P 0 fs.toList with
   |some ty=>if Nat.beq (P.cellsOf t) ty.size then some ty else none
   |none=>none
  |_=>none
where
 flds (f:TypeId->Option Ty) (P:Program) (off:Nat):List Field->Option Ty
  | []=>some .unit
  | [x]=>match f x.type with
   |some a=>if Nat.beq x.offset off&&Nat.beq (P.cellsOf x.type) a.size then some a else none
   |none=>none
  |x::y::r=>match f x.type with
   |some a=>if Nat.beq x.offset off&&Nat.beq (P.cellsOf x.type) a.size then match flds f P (off+a.size) (y::r) with
    |some b=>some (.pair a b)
    |none=>none
    else none
   |none=>none
def Ty.ok:(t:Ty)->t.den->Prop
 |.int k,n=>k.min<=(show Int from n)/\(show Int from n)<=k.max
 |.bool,_=>True
 |.str,s=>(show ByteArray from s).size<=maxLen
 |.unit,_=>True
 |.pair a b,d=>a.ok d.1/\b.ok d.2
 |.sl e,l=>(show List e.den from l).length<=maxLen/\∀x∈(show List e.den from l),e.ok x
 |.arr e _,l=>∀x∈(show List e.den from l),e.ok x
theorem mapM_cons_some{α β:Type}{f:α->Option β}{a:α}{l:List α}{r:List β}(h:(a::l).mapM f=some r):∃x q,f a=some x/\l.mapM f=some q/\r=x::q:=by
 rw[List.mapM_cons] at h
 cases hx:f a with
 |none=>rw[hx] at h;cases h
 |some x=>
  cases hq:l.mapM f with
  |none=>rw[hx,hq] at h;cases h
  |some q=>
   rw[hx,hq] at h
   cases h
   exact⟨x,q,rfl,rfl,rfl⟩
theorem cells_row{w:World}{base:Nat}{a:Addr}{n:Nat}{cs:List Value}(h:w.cells? base a n=some cs):cs.length=n/\∀i v,cs[i]? = some v->w.cell? (a.add i)=some v:=by
 unfold World.cells? at h
 split at h
 ·have hl:=mapM_some_length h
  rw[List.length_range] at hl
  refine⟨hl,fun i v hv=>?_⟩
  have hi:i<n:=by rw[<- hl];exact (List.getElem?_eq_some_iff.1 hv).1
  rw[mapM_some_get h i i (by simp[hi])]
  exact hv
 ·cases h
theorem cell_addr{w:World}{a:Addr}{v:Value}(h:w.cell? a=some v):a.spot=none/\a.block<w.heap.size:=by
 unfold World.cell? at h
 split at h
 ·rename_i c t fr hb
  refine⟨?_,(Array.getElem?_eq_some_iff.1 hb).1⟩
  cases hs:a.spot with
  |none=>rfl
  |some x=>simp[hs] at h
 ·cases h
theorem flds_rep{P:Program}{w:World}{H:Type}{f:TypeId->Option Ty}{r:TypeId->List Value->Option (DataW H × List MemPlace)}
  (hr:∀t cs x ty,w.noneFrozen x.2->r t cs=some x->f t=some ty->∃d:ty.den,zG (fun b=>b<w.heap.size) w ty d cs/\ty.ok d) :
  ∀(l:List Field)(off:Nat)(ty:Ty)(cs:List Value)(ys:List (DataW H × List MemPlace)),tyChk.flds f P off l=some ty ->
   (l.mapM fun g=>r g.type ((cs.drop g.offset).take (P.cellsOf g.type)))=some ys->(∀y∈ys,w.noneFrozen y.2)->cs.length=off+ty.size->∃d:ty.den,zG (fun b=>b<w.heap.size) w ty d (cs.drop off)/\ty.ok d
 | [],off,ty,cs,ys,hf,_,_,hl=>by
  cases hf
  refine⟨(),?_,trivial⟩
  show cs.drop off=[]
  rw[List.drop_eq_nil_of_le]
  simp only[Ty.size] at hl
  omega
 | [g],off,ty,cs,ys,hf,hm,hz,hl=>by
  simp only[tyChk.flds] at hf
  split at hf<;>try (cases hf;done)
  rename_i a ha
  split at hf<;>try (cases hf;done)
  rename_i hc
  cases hf
  simp only[Bool.and_eq_true] at hc
  have h1:=nbT hc.1
  have h2:=nbT hc.2
  obtain⟨x,q,hx,_,rfl⟩:=mapM_cons_some hm
  obtain⟨d,hd,hok⟩:=hr _ _ _ _ (hz x (by simp)) hx ha
  rw[h1,h2,List.take_of_length_le (by rw[List.length_drop];omega)] at hd
  exact⟨d,hd,hok⟩
 |g::g'::l,off,ty,cs,ys,hf,hm,hz,hl=>by
  simp only[tyChk.flds] at hf
  split at hf<;>try (cases hf;done)
  rename_i a ha
  split at hf<;>try (cases hf;done)
  rename_i hc
  split at hf<;>try (cases hf;done)
  rename_i b hb
  cases hf
  simp only[Bool.and_eq_true] at hc
  have h1:=nbT hc.1
  have h2:=nbT hc.2
  obtain⟨x,q,hx,hq,rfl⟩:=mapM_cons_some hm
  obtain⟨d,hd,hok⟩:=hr _ _ _ _ (hz x (by simp)) hx ha
  simp only[Ty.size] at hl
  obtain⟨d',hd',hok'⟩:=flds_rep hr (g'::l) (off+a.size) b cs q hb hq (fun y hy=>hz y (by simp[hy])) (by omega)
  rw[h1,h2] at hd
  refine⟨(d,d'),⟨_,_,?_,hd,hd'⟩,hok,hok'⟩
  rw[<- List.drop_drop,List.take_append_drop]
theorem list_choose{α β:Type}{R:Nat->α->β->Prop}:∀(l:List α)(o:Nat),(∀i x,l[i]? = some x->∃d,R (o+i) x d)->∃ds:List β,ds.length=l.length/\∀i d,ds[i]? = some d->∃x,l[i]? = some x/\R (o+i) x d
 | [],_,_=>⟨[],rfl,fun i d h=>by simp at h⟩
 |a::l,o,h=>by
  obtain⟨d,hd⟩:=h 0 a rfl
  obtain⟨ds,h1,h2⟩:=list_choose l (o+1) fun i x hx=>by
   have:=h (i+1) x (by simpa using hx)
   rwa [show o+(i+1)=o+1+i from by omega] at this
  refine⟨d::ds,by simp[h1],fun i e he=>?_⟩
  cases i with
  |zero=>simp at he;subst he;exact⟨a,rfl,hd⟩
  |succ i=>
   obtain⟨x,hx,hR⟩:=h2 i e (by simpa using he)
   exact⟨x,by simpa using hx,by rwa [show o+(i+1)=o+1+i from by omega]⟩
theorem trod_rep{H:Type}{enc:TypeId × Value->H}{P:Program}{w:World}{base:Nat}{spare:Nat->Bool}{held:Bool}:∀(m n:Nat)(t:TypeId)(cs:List Value)(x:DataW H × List MemPlace)(ty:Ty),
  w.noneFrozen x.2->DataW.trod enc P w base spare held n t cs=some x->tyChk P m t=some ty->∃d:ty.den,zG (fun b=>b<w.heap.size) w ty d cs/\ty.ok d
 |0,_,_,_,_,_,_,_,h=>by cases h
 |m+1,0,_,_,_,_,_,h,_=>by cases h
 |m+1,n+1,t,cs,x,ty,hz,h,hc=>by
  unfold DataW.trod at h
  simp only[tyChk] at hc
  split at h
  ·rename_i b hu
   rw[hu] at hc
   cases hc
   exact⟨b,rfl,trivial⟩
  ·rename_i k k' z hu
   rw[hu] at hc
   cases hc
   split at h<;>try (cases h;done)
   rename_i hk
   obtain⟨rfl,hw⟩:=hk
   simp only[Lit.wf,Bool.and_eq_true,decide_eq_true_eq] at hw
   exact⟨z,rfl,hw⟩
  ·rename_i hu
   rw[hu] at hc
   cases hc
  ·rename_i s hu
   rw[hu] at hc
   cases hc
   split at h<;>try (cases h;done)
   rename_i hs
   exact⟨s,rfl,hs⟩
  ·rename_i hu
   rw[hu] at hc
   cases hc
  ·rename_i hu
   rw[hu] at hc
   cases hc
  ·rename_i e hu
   rw[hu] at hc
   dsimp only at hc
   split at hc<;>try (cases hc;done)
   rename_i ty' hty
   split at hc<;>try (cases hc;done)
   cases hc
   exact⟨[],⟨_,rfl,none,0,rfl,Nat.le_refl _,.inl rfl⟩,Nat.zero_le _,fun x hx=>by cases hx⟩
  ·rename_i e a len cap hu
   rw[hu] at hc
   dsimp only at hc
   split at hc<;>try (cases hc;done)
   rename_i ty' hty
   split at hc<;>try (cases hc;done)
   rename_i hck
   cases hc
   simp only[Bool.and_eq_true] at hck
   have hsz:=Nat.le_of_ble_eq_true hck.1
   have hco:=nbT hck.2
   split at h<;>try (cases h;done)
   rename_i hb
   obtain⟨_,hlc,hcm⟩:=hb
   rw[Option.bind_eq_some_iff] at h
   obtain⟨elems,hel,hx⟩:=h
   rw[Option.map_eq_some_iff] at hx
   obtain⟨rest,_,rfl⟩:=hx
   have hll:=mapM_some_length hel
   rw[List.length_range] at hll
   have hone:∀i,i<len->∃d:ty'.den,∃cs,(w.cells? base (a.add (i*ty'.size)) ty'.size)=some cs/\zG (fun b=>b<w.heap.size) w ty' d cs/\ty'.ok d:=fun i hi=>by
    have hi' : i<elems.length:=by omega
    have:=mapM_some_get hel i i (by simp[hi])
    rw[List.getElem?_eq_getElem hi',Option.bind_eq_some_iff] at this
    obtain⟨cs,h1,h2⟩:=this
    rw[hco] at h1
    obtain⟨d,h3,h4⟩:=trod_rep m n e cs _ ty' (fun b off hm=>hz b off (List.mem_append_right _ (List.mem_flatMap.2 ⟨elems[i],List.mem_append_left _ (List.getElem_mem hi'),hm⟩))) h2 hty
    exact⟨d,cs,h1,h3,h4⟩
   obtain⟨ds,hdl,hds⟩:=list_choose (R:=fun i (_:Nat) (d:ty'.den)=>∃cs,(w.cells? base (a.add (i*ty'.size)) ty'.size)=some cs/\zG (fun b=>b<w.heap.size) w ty' d cs/\ty'.ok d) (List.range len) 0 (fun i x hx=>by
    have hi:i<len:=by simpa using (List.getElem?_eq_some_iff.1 hx).1
    rw[Nat.zero_add]
    exact hone i hi)
   rw[List.length_range] at hdl
   refine⟨ds,⟨_,rfl,some a,cap,by rw[hdl],by rw[hdl];exact hlc,?_⟩,by show ds.length<=maxLen;omega,fun x hx=>?_⟩
   ·by_cases h0:len=0
    ·left;exact List.eq_nil_of_length_eq_zero (by omega)
    ·right
     have ha:a.spot=none/\a.block<w.heap.size:=by
      obtain⟨d,cs,h1,_⟩:=hone 0 (by omega)
      obtain⟨h2,h3⟩:=cells_row h1
      have h4:0<cs.length:=by omega
      have:=h3 0 cs[0] (List.getElem?_eq_getElem h4)
      simp only[Nat.zero_mul,Addr.add,if_true] at this
      exact cell_addr this
     obtain⟨b,o,sp⟩:=a
     obtain⟨hsp,hbl⟩:=ha
     simp only at hsp hbl
     subst hsp
     refine⟨b,o,rfl,hbl,fun i d hd=>?_⟩
     obtain⟨_,_,cs,h1,h2,_⟩:=hds i d hd
     rw[Nat.zero_add] at h1
     refine⟨cs,fun j v hv=>?_,h2⟩
     have:=(cells_row h1).2 j v hv
     have e:((⟨b,o,none⟩:Addr).add (i*ty'.size)).add j=⟨b,o+i*ty'.size+j,none⟩:=by
      unfold Addr.add
      split<;>split<;>simp_all
     rw[e] at this
     refine⟨this,hz _ _ (List.mem_append_left _ ?_)⟩
     have hi:i<elems.length:=by rw[hll,<- hdl];exact (List.getElem?_eq_some_iff.1 hd).1
     have hj:j<ty'.size:=by rw[<- (cells_row h1).1];exact (List.getElem?_eq_some_iff.1 hv).1
     unfold MemPlace.row
     rw[List.mem_map]
     refine⟨i*ty'.size+j,List.mem_range.2 ?_,by simp[Nat.add_assoc]⟩
     rw[hco]
     calc i*ty'.size+j<i*ty'.size+ty'.size:=by omega
      _=(i+1)*ty'.size:=by rw[Nat.succ_mul]
      _<=(elems.length+rest.length)*ty'.size:=Nat.mul_le_mul_right _ (by omega)
   ·obtain⟨i,hi⟩:=List.getElem?_of_mem hx
    obtain⟨_,_,_,_,_,h3⟩:=hds i x hi
    exact h3
  ·rename_i fs hu
   rw[hu] at hc
   dsimp only at hc
   split at hc<;>try (cases hc;done)
   rename_i ty' hfl
   split at hc<;>try (cases hc;done)
   rename_i hcs
   cases hc
   have hcs:=nbT hcs
   split at h<;>try (cases h;done)
   rename_i hlen
   rw[Option.map_eq_some_iff] at h
   obtain⟨ys,hys,rfl⟩:=h
   have:=flds_rep (w:=w) (r:=DataW.trod enc P w base spare held n) (fun t cs x ty hz h1 h2=>trod_rep m n t cs x ty hz h1 h2) fs.toList 0 _ _ ys hfl hys (fun y hy b off hm=>hz b off (List.mem_flatMap.2 ⟨y,hy,hm⟩)) (by rw[hlen,hcs];omega)
   simpa using this
  all_goals first |(rename_i hu;rw[hu] at hc;cases hc;done) |(rename_i hu _;rw[hu] at hc;cases hc;done) |(rename_i hu _ _;rw[hu] at hc;cases hc;done) |(rename_i hu _ _ _;rw[hu] at hc;cases hc;done) |(cases h;done)
end Go.Sx
namespace Go.Sx
open Go.RowKit
def isStruct(P:Program)(t:TypeId):Bool :=
 match P.underlying t with
 |some (.struct _)=>true
 |_=>false
def shOf(P:Program)(t:TypeId):Option Sh :=
 match tyChk P 9 t with
 |some ty=>some (bif isStruct P t then .agg ty else .val ty)
 |none=>none
def shsOf(P:Program):List TypeId->Option (List Sh)
 | []=>some []
 |t::r=>match shOf P t,shsOf P r with
  |some s,some q=>some (s::q)
  |_,_=>none
def Sh.ok:(s:Sh)->s.den->Prop
 |.val t,d=>t.ok d
 |.agg t,d=>t.ok d
 |_,_=>True
def okL:(l:List Sh)->wM l->Prop
 | [],_=>True
 |s::r,x=>s.ok x.1/\okL r x.2
theorem arg_scalar{I:Nat->Prop}{W:World}{ty:Ty}{d:ty.den}{v:Value}(hv:∀cs,v ≠ .agg cs) (hx:zG I W ty d v.cells.toList) (i:Nat):Rep (E0 I) noU W ((Sh.val ty).enc i d) v:=by
 have hc:v.cells.toList=[v]:=by cases v<;>first |rfl |exact absurd rfl (hv _)
 rw[hc] at hx
 have h3:=zG.cells (E:=E0 I) (U:=noU) ty d _ hx
 show Rep _ _ W ((ty.cells d).headD .any) v
 have hl:=h3.length
 match hcs:ty.cells d,h3,hl with
 | [s],h3,_=>
  obtain⟨v',e,h4⟩:=pT h3
  cases e
  exact h4
theorem arg_rep{H:Type}{enc:TypeId × Value->H}{P:Program}{W:World}{b base:Nat}{sp:Nat->Bool}{held:Bool}{t:TypeId}{v:Value}{d:DataW H}{p:List MemPlace}{s:Sh}{r:Reach}
  (hz:W.noneFrozen p) (h:DataW.Trod enc P W base sp held t v d p) (hok:Value.okWide P W r b t v) (hs:shOf P t=some s):∃x:s.den,(∀i,Rep (E0 fun b=>b<W.heap.size) noU W (s.enc i x) v)/\s.ok x:=by
 obtain⟨fuel,h⟩:=h
 unfold shOf at hs
 split at hs<;>try (cases hs;done)
 rename_i ty hty
 cases hs
 obtain⟨x,hx,hxo⟩:=trod_rep 9 fuel t _ _ ty hz h hty
 unfold Value.okWide at hok
 unfold isStruct
 cases hu:P.underlying t with
 |none=>unfold tyChk at hty;rw[hu] at hty;cases hty
 |some td=>
  rw[hu] at hok
  cases td with
  |struct fs=>
   obtain⟨cs,rfl,_,_⟩:=hok
   refine⟨x,fun i=>?_,hxo⟩
   show Rep _ _ W (.agg (ty.cells x)) (.agg cs)
   unfold Rep
   exact⟨cs.toList,by simp,zG.cells (E:=E0 fun b=>b<W.heap.size) ty x _ hx⟩
  |int k=>exact⟨x,fun i=>arg_scalar (fun cs e=>by subst e;simp[Cell.okWide,Cell.ok,hu] at hok) hx i,hxo⟩
  |bool=>exact⟨x,fun i=>arg_scalar (fun cs e=>by subst e;simp[Cell.okWide,Cell.ok,hu] at hok) hx i,hxo⟩
  |string=>exact⟨x,fun i=>arg_scalar (fun cs e=>by subst e;simp[Cell.okWide,Cell.ok,hu] at hok) hx i,hxo⟩
  |slice e=>exact⟨x,fun i=>arg_scalar (fun cs e=>by subst e;simp[Cell.okWide,Cell.ok,hu] at hok) hx i,hxo⟩
  |_=>unfold tyChk at hty;rw[hu] at hty;cases hty
theorem args_all{H:Type}{enc:TypeId × Value->H}{P:Program}{W:World}{b base:Nat}{sp:Nat->Bool}{held:Bool}{r:Reach}:∀{ts:List TypeId}{vs:List Value}{ds:List (DataW H)}{p:List MemPlace}{l:List Sh},
  W.noneFrozen p->DataW.TrodAll enc P W base sp held ts vs ds p->(∀(j:Nat) t v,ts[j]? = some t->vs[j]? = some v->Value.okWide P W r b t v)->shsOf P ts=some l ->
  ∃x:wM l,(∀i,zA (E0 fun b=>b<W.heap.size) noU W (z_ i l x) vs)/\okL l x
 | [],[],[],_,l,_,_,_,hs=>by
  cases hs
  exact⟨(),fun _=>zA.nil,trivial⟩
 |t::ts,v::vs,d::ds,p,l,hz,h,hok,hs=>by
  obtain⟨p1,q1,h1,h2,rfl⟩:=h
  simp only[shsOf] at hs
  split at hs<;>try (cases hs;done)
  rename_i s q hs1 hs2
  cases hs
  obtain⟨x,hx,hxo⟩:=arg_rep (fun b off hm=>hz b off (List.mem_append_left _ hm)) h1 (hok 0 t v rfl rfl) hs1
  obtain⟨y,hy,hyo⟩:=args_all (fun b off hm=>hz b off (List.mem_append_right _ hm)) h2 (fun j t v ht hv=>hok (j+1) t v (by simpa using ht) (by simpa using hv)) hs2
  exact⟨(x,y),fun i=>zA.cons (hx i) (hy (i+1)),hxo,hyo⟩
 | [],[],_::_,_,_,_,h,_,_=>h.elim
 | [],_::_,_,_,_,_,h,_,_=>h.elim
 |_::_,[],_,_,_,_,h,_,_=>h.elim
 |_::_,_::_,[],_,_,_,h,_,_=>h.elim
end Go.Sx
namespace Go.Sx
open Go.RowKit Go.ChangeShapes
theorem trodAll_stays{H:Type}{enc:TypeId × Value->H}{P:Program}(hl:laidOutB P=true) {W W' : World}(hb:Below W.heap.size W W') {sp:Nat->Bool}:∀{ts:List TypeId}{vs:List Value}{ds:List (DataW H)}{p:List MemPlace},
  (ts.all fun t=>P.readableRec t&&decide (t<P.types.size))=true->DataW.TrodAll enc P W 0 (fun _=>true) true ts vs ds p->(∀x∈p,x.block<W.heap.size/\sp x.block=true)->DataW.TrodAll enc P W' 0 sp true ts vs ds p
 | [],[],[],_,_,h,_=>h
 |t::ts,v::vs,d::ds,_,hr,h,hp=>by
  obtain⟨p,q,h1,h2,rfl⟩:=h
  simp only[List.all_cons,Bool.and_eq_true,decide_eq_true_eq] at hr
  exact⟨p,q,WideElems.Trod_stays hl hr.1.1 hr.1.2 h1 (fun x hx=>hb.same (hp x (List.mem_append_left _ hx)).1) (fun x hx=>(hp x (List.mem_append_left _ hx)).2),
   trodAll_stays hl hb hr.2 h2 (fun x hx=>hp x (List.mem_append_right _ hx)),rfl⟩
 | [],[],_::_,_,_,h,_=>h.elim
 | [],_::_,_,_,_,h,_=>h.elim
 |_::_,[],_,_,_,h,_=>h.elim
 |_::_,_::_,[],_,_,h,_=>h.elim
theorem zAj{H:Type}{enc:TypeId × Value->H}{P:Program}{W:World}{b:Nat}{sp:Nat->Bool}{hd:Bool}:∀{ts:List TypeId}{vs:List Value}{ds:List (DataW H)}{p:List MemPlace},DataW.TrodAll enc P W b sp hd ts vs ds p->ds.length=ts.length
 | [],[],[],_,_=>rfl
 |t::ts,v::vs,d::ds,_,h=>by obtain⟨p,q,_,h2,_⟩:=h;simp[zAj h2]
 | [],[],_::_,_,h=>h.elim
 | [],_::_,_,_,h=>h.elim
 |_::_,[],_,_,h=>h.elim
 |_::_,_::_,[],_,h=>h.elim
theorem law_lift{H:Type}{enc:TypeId × Value->H}{C:Checked}{os:Os}{f:FuncId}{fn:Func}{s:ChangeSpec}{conds:List PathCond}{l:List Sh}{tb:TypeId}
  (own:ownKnob C.prog.godebug=none) (started:os.Started) (noInit:C.prog.inits.idxOf? f=none) (hfn:C.prog.funcs[f]? = some fn) (hsv:s.vars=[])
  (hl:laidOutB C.prog=true) (hr:(fn.params.toList.all fun t=>C.prog.readableRec t&&decide (t<C.prog.types.size))=true) (hrt:fn.resultTypes = #[tb]) (htb:C.prog.underlying tb=some .bool)
  (hs:shsOf C.prog fn.params.toList=some l)
  (hspec:∀ds:List (DataW H),ds.length=fn.params.toList.length->s.fn H ds={ results:=[.lit (.bool true)],args:=ds })
  (witness:∃ (w:World) (tape:Tape) (i:Input),w.os=os/\(w.forCall tape i).Shaped C.prog/\i.vars=[]/\Input.okWide C.prog (w.forCall tape i) .any w.heap.size f i /\
   s.pre6 enc C.prog fn conds false (w.forCall tape i).memory i.args/\({}:Assume).holds C.prog (lone (Frame.enter C.prog f i.args .normal) [] (w.forCall tape i)))
  (ok:∀x:wM l,okL l x->FnOk C.prog f (z_ 0 l x) (.bool true)) :
  ReturnsInHanded {} C os f .any (s.pre6 enc C.prog fn conds false) (s.post enc C.prog fn false true false false):=by
 refine returnsInHanded_of_change own started noInit hfn witness ?_
 intro W base args ds gs before hval hW _ _
 have hW':=hW
 obtain⟨p,q,hA,hV,rfl,hz,_⟩:=hW
 have hlt:∀x∈p++q,x.block<W.heap.size:=fun x hx=>hW'.lt x hx
 rw[hsv] at hV
 obtain⟨rfl,rfl⟩:=trodVars_none hV
 have hval' : ∀(j:Nat) t v,fn.params.toList[j]? = some t->args.toList[j]? = some v->Value.okWide C.prog W .any base t v:=fun j t v h1 h2=>hval j t v (by simpa using h1) (by simpa using h2)
 obtain⟨x,hx,hxo⟩:=args_all (fun b off hm=>hz b off (List.mem_append_left _ hm)) hA hval' hs
 refine (ok x hxo (fun b=>b<W.heap.size) W args.toList (fun b hb=>hb) (hx 0)).mono ?_
 rintro e W' ⟨_,v,rfl,hf,I',_,_,_,hv⟩
 unfold Rep at hv
 subst hv
 refine⟨_,rfl,ds,[],p++[],[],p,[],hW',?_,?_,?_,hf.below.frame _,fun h=>by cases h⟩
 ·rw[List.append_nil,hspec ds (zAj hA),hrt]
  exact trodAll_mk1 (shut_bool htb true)
 ·rw[List.append_nil,hspec ds (zAj hA)]
  exact trodAll_stays hl hf.below hr hA fun x hx=>⟨hlt x (by simp[hx]),by simpa using hlt x (by simp[hx])⟩
 ·rw[List.append_nil,hspec ds (zAj hA),hsv]
  rfl
end Go.Sx
namespace Go.Sx
open Go.RowKit
structure Hold {β:Type}(Q:β->Prop) (t:Tree β):Prop where
 h:t.holds Q
theorem zD{β:Type}{Q:β->Prop}{t t' : Tree β}(h:t=t') (h' : t'.holds Q):Hold Q t:=⟨h ▸ h'⟩
theorem Tree.fG{β:Type}{Q:β->Prop}:∀{t:Tree β},t.holds Q->∃b,Q b/\t.holds fun x=>x=b
 |.leaf b,h=>⟨b,h,rfl⟩
 |.cond true t e,h=>by
  obtain⟨b,h1,h2⟩:=Tree.fG (h.1 rfl)
  exact⟨b,h1,fun _=>h2,fun h=>by cases h⟩
 |.cond false t e,h=>by
  obtain⟨b,h1,h2⟩:=Tree.fG (h.2 rfl)
  exact⟨b,h1,(fun h=>by cases h),fun _=>h2⟩
 |.need p t,h=>by
  obtain⟨b,h1,h2⟩:=Tree.fG h.2
  exact⟨b,h1,h.1,h2⟩
 |.fail _,h=>h.elim
def AllK(P:Program)(ys:List YH)(n:Nat)(r0:Option Nat)(u0:Nat->Bool)(c:Code):List (Nat × jS)->Prop
 | []=>True
 |q::l=>zU P ys n r0 u0 (jH c q.1) q.2/\AllK P ys n r0 u0 c l
theorem AllK.all{P:Program}{ys:List YH}{n:Nat}{r0:Option Nat}{u0:Nat->Bool}{c:Code}:∀{l:List (Nat × jS)},AllK P ys n r0 u0 c l->∀q∈l,zU P ys n r0 u0 (jH c q.1) q.2
 | [],_,q,hq=>by cases hq
 |p::l,h,q,hq=>by
  rcases List.mem_cons.1 hq with rfl |hq
  ·exact h.1
  ·exact AllK.all h.2 q hq
def j_{α:Type}(n:Nat) (L:Lay) (to:L.den->α) (inv:α->Prop) (out:α->Tree (Exit × St)):jS:=loopRun n L (fun x=>some (inv (to x))) (fun x=>out (to x))
def bodyK{α δ ε:Type}(to:δ->α):δ ⊕ ε->Tree (α ⊕ ε)
 |.inl y=>.leaf (.inl (to y))
 |.inr p=>.leaf (.inr p)
def zF{P:Program}(cx:List (GC P)) (lp:Nat->Option jS) (ys:List YH) (n:Nat) (u0:Nat->Bool) (body:Code) (L:Lay) (xl:Exit->St->Option Lay) {α:Type}(of:α->L.den) (to:L.den->α) (a:α):Tree (α ⊕ (Exit × St)) :=
 (loopBody cx lp ys n u0 body L xl (of a)).bind (bodyK to)
def roundB{α:Type}(inv:α->Prop) (μ:α->Nat) (out:α->Tree (Exit × St)) (Q:Exit × St->Prop) (a:α):α ⊕ (Exit × St)->Prop
 |.inl y=>(inv y/\μ y<μ a)/\(out y).holds Q
 |.inr p=>Q p
theorem zT{P:Program}(hm:P.follows .mixedOrders=true) {cx:List (GC P)}(lps:List (Nat × jS)) {ys:List YH}{n:Nat}{r0:Option Nat}{u0:Nat->Bool}{c:Code}{L:Lay}{xl:Exit->St->Option Lay}{α:Type}{to:L.den->α}(of:α->L.den)
  {inv:α->Prop}(μ:α->Nat) {out:α->Tree (Exit × St)}(hof:∀x,of (to x)=x) (hc:isLoop c=true) (hL:L.ok u0=true) (hxl:∀e S L',xl e S=some L'->L'.ok u0=true) (hn:yN ((vP 0 (jI c)).map (·.1))=true)
  (hl:AllK P ys n r0 u0 (jI c) lps)
  (h:∀a,inv a->∀Q,(out a).holds Q->Hold (roundB inv μ out Q a) (zF cx (zH lps) ys n u0 (jI c) L xl of to a)) :
  zU P ys n r0 u0 c (j_ n L to inv out):=by
 refine loop_at hm (cx:=cx) (lps:=lps) (xl:=xl) (fun x=>inv (to x)) (fun x=>μ (to x)) hc hL hxl hn hl.all (fun _ h=>h) fun x hx Q hQ=>?_
 have:=Tree.pB (h (to x) hx Q hQ).h
 rw[hof] at this
 refine Tree.g_ ?_ this
 rintro (y |p) hy
 ·exact hy
 ·exact hy
theorem yK{P:Program}(hm:P.follows .mixedOrders=true) {cx:List (GC P)}{lps:List (Nat × jS)}{f:FuncId}{fn:Func}(hf:P.funcs[f]? = some fn) {args:List SV}{res:SV}(hn:yN ((vP 0 (zJ fn)).map (·.1))=true)
  {T:Tree SV}(ht:jD cx (zH lps) fn args=T) (hl:AllK P [] fn.ntmps none noU (zJ fn) lps) (h:T.holds fun s=>s=res):FnOk P f args res :=
 fn_at hm hf hn hl.all ht h
def PC.of{P:Program}{α:Type}(f:FuncId) (ps:List Sh) (to:wM ps->α) (of:α->wM ps) (hof:∀x,of (to x)=x) (pre:α->Option Prop) (out:α->SV) (ent:entB P f=true) (ok:∀a,ndP (pre a)->FnOk P f (z_ 0 ps (of a)) (out a)):PC P where
 f:=f
 ps:=ps
 pre:=fun x=>pre (to x)
 out:=fun x=>out (to x)
 ent:=ent
 ok:=fun x hx=>by have:=ok (to x) hx;rwa [hof] at this
def MC.of{P:Program}{α:Type}(f:FuncId) (L:Lay) (to:L.den->α) (of:α->L.den) (hof:∀x,of (to x)=x) (pre:α->Option Prop) (out:α->MOut) (mok:L.mok=true) (ent:entB P f=true) (pok:w_ L.ids L.shs=true) (ok:∀a,ndP (pre a)->qV P f L (of a) (out a)):MC P where
 f:=f
 L:=L
 pre:=fun x=>pre (to x)
 out:=fun x=>out (to x)
 mok:=mok
 ent:=ent
 pok:=pok
 ok:=fun x hx=>by have:=ok (to x) hx;rwa [hof] at this
theorem yG{P:Program}(hm:P.follows .mixedOrders=true) {cx:List (GC P)}{lps:List (Nat × jS)}{f:FuncId}{fn:Func}(hf:P.funcs[f]? = some fn) {L:Lay}{own:Bool}{x:L.den}{o:MOut}(hok:L.mok=true) (hn:yN ((vP 0 (zJ fn)).map (·.1))=true)
  {T:Tree MOut}(ht:jG cx (zH lps) fn L own x=T) (hl:AllK P [] fn.ntmps none (L.st noU x).used (zJ fn) lps) (h:T.holds fun s=>s=o):qV P f L x o :=
 m_ok hm hf hok hn hl.all ht h
theorem m_rel{P:Program}(hm:P.follows .mixedOrders=true) {cx:List (GC P)}{lps:List (Nat × jS)}{f:FuncId}{fn:Func}(hf:P.funcs[f]? = some fn) {L:Lay}{own:Bool}{x:L.den}{Q:MOut->Prop}(hok:L.mok=true) (hn:yN ((vP 0 (zJ fn)).map (·.1))=true)
  {T:Tree MOut}(ht:jG cx (zH lps) fn L own x=T) (hl:AllK P [] fn.ntmps none (L.st noU x).used (zJ fn) lps) (h:T.holds Q):∃o,Q o/\qV P f L x o:=by
 obtain⟨s,h1,h2⟩:=Tree.fG h
 exact⟨s,h1,m_ok hm hf hok hn hl.all ht h2⟩
theorem choose_val{α β:Type}[Nonempty β]{pr:α->Prop}{R:α->β->Prop}(h:∀a,pr a->∃b,R a b):∃f:α->β,∀a,pr a->R a (f a):=by
 classical
 refine⟨fun a=>if ha:pr a then Classical.choose (h a ha) else Classical.choice inferInstance,fun a ha=>?_⟩
 show R a (if ha:pr a then Classical.choose (h a ha) else Classical.choice inferInstance)
 rw[dif_pos ha]
 exact Classical.choose_spec (h a ha)
mutual
def LeS:SV->SV->Prop
 |.nils,.sl _ l=>l=[]
 |.nils,.osl _ l=>l=[]
 |.sl t l,.osl t' l' =>l≠[]/\SV.osl t l=SV.osl t' l'
 |.osl t l,.sl t' l' =>SV.sl t l=SV.sl t' l'
 |.nsl t l _,.sl t' l' =>SV.sl t l=SV.sl t' l'
 |.agg cs,.agg ds=>LeL cs ds
 |.tup cs,.tup ds=>LeL cs ds
 |s,r=>s=r
def LeL:List SV->List SV->Prop
 | [],[]=>True
 |c::cs,d::ds=>LeS c d/\LeL cs ds
 |_,_=>False
end
mutual
theorem LeS.rep{E:En}{U:Nat->Bool}{w:World}:∀(s r:SV)(v:Value),LeS s r->Rep E U w s v->Rep E U w r v
 |.agg cs,r,v,h,hr=>by
  cases r with
  |agg ds=>
   unfold LeS at h
   unfold Rep at hr ⊢
   obtain⟨vs,e,hl⟩:=hr
   exact⟨vs,e,LeL.rep cs ds vs h hl⟩
  |_=>unfold LeS at h;rw[<- h];exact hr
 |.tup cs,r,v,h,hr=>by
  cases r with
  |tup ds=>
   unfold LeS at h
   unfold Rep at hr ⊢
   obtain⟨vs,e,hl⟩:=hr
   exact⟨vs,e,LeL.rep cs ds vs h hl⟩
  |_=>unfold LeS at h;rw[<- h];exact hr
 |.nils,r,v,h,hr=>by
  cases r with
  |sl t l=>
   unfold LeS at h
   subst h
   unfold Rep at hr ⊢
   subst hr
   exact⟨_,rfl,none,0,rfl,Nat.le_refl _,.inl rfl⟩
  |osl t l=>
   unfold LeS at h
   subst h
   unfold Rep at hr ⊢
   subst hr
   exact⟨⟨_,rfl,none,0,rfl,Nat.le_refl _,.inl rfl⟩,fun _=>rfl⟩
  |_=>unfold LeS at h;rw[<- h];exact hr
 |.any,r,v,h,hr=>by unfold LeS at h;rw[<- h];exact hr
 |.int ..,r,v,h,hr=>by unfold LeS at h;rw[<- h];exact hr
 |.bool ..,r,v,h,hr=>by unfold LeS at h;rw[<- h];exact hr
 |.str ..,r,v,h,hr=>by unfold LeS at h;rw[<- h];exact hr
 |.sl t l,r,v,h,hr=>by
  cases r with
  |osl t' l' =>
   unfold LeS at h
   obtain⟨h1,h2⟩:=h
   cases h2
   unfold Rep at hr ⊢
   exact⟨hr,fun e=>absurd e h1⟩
  |_=>unfold LeS at h;rw[<- h];exact hr
 |.osl t l,r,v,h,hr=>by
  cases r with
  |sl t' l' =>
   unfold LeS at h
   cases h
   unfold Rep at hr ⊢
   exact hr.1
  |_=>unfold LeS at h;rw[<- h];exact hr
 |.nsl t l _,r,v,h,hr=>by
  cases r with
  |sl t' l' =>
   unfold LeS at h
   cases h
   unfold Rep at hr ⊢
   exact hr.1
  |_=>unfold LeS at h;rw[<- h];exact hr
 |.adr ..,r,v,h,hr=>by unfold LeS at h;rw[<- h];exact hr
 |.ptr ..,r,v,h,hr=>by unfold LeS at h;rw[<- h];exact hr
 |.own ..,r,v,h,hr=>by unfold LeS at h;rw[<- h];exact hr
 |.oel ..,r,v,h,hr=>by unfold LeS at h;rw[<- h];exact hr
 |.sub ..,r,v,h,hr=>by unfold LeS at h;rw[<- h];exact hr
 |.bsl ..,r,v,h,hr=>by unfold LeS at h;rw[<- h];exact hr
 |.nilp,r,v,h,hr=>by unfold LeS at h;rw[<- h];exact hr
 |.fn ..,r,v,h,hr=>by unfold LeS at h;rw[<- h];exact hr
 |.yld ..,r,v,h,hr=>by unfold LeS at h;rw[<- h];exact hr
 |.mp ..,r,v,h,hr=>by unfold LeS at h;rw[<- h];exact hr
 |.arr ..,r,v,h,hr=>by unfold LeS at h;rw[<- h];exact hr
 |.big ..,r,v,h,hr=>by unfold LeS at h;rw[<- h];exact hr
theorem LeL.rep{E:En}{U:Nat->Bool}{w:World}:∀(s r:List SV)(v:List Value),LeL s r->zA E U w s v->zA E U w r v
 | [],[],v,_,hr=>hr
 |c::cs,d::ds,v,h,hr=>by
  unfold LeL at h
  unfold zA at hr ⊢
  obtain⟨u,q,e,h1,h2⟩:=hr
  exact⟨u,q,e,LeS.rep c d u h.1 h1,LeL.rep cs ds q h.2 h2⟩
 | [],_::_,_,h,_=>by unfold LeL at h;exact h.elim
 |_::_,[],_,h,_=>by unfold LeL at h;exact h.elim
end
theorem FnOk.le{P:Program}{f:FuncId}{args:List SV}{s r:SV}(h:FnOk P f args s) (hd:qL r=true) (hl:LeS s r):FnOk P f args r:=by
 intro I w zM hI hr
 refine (h I w zM hI hr).mono ?_
 rintro e w' ⟨_,v,he,hf,I',h1,h2,h3,hrep⟩
 exact⟨hd,v,he,hf,I',h1,h2,h3,LeS.rep s r v hl hrep⟩
theorem fn_le{P:Program}(hm:P.follows .mixedOrders=true) {cx:List (GC P)}{lps:List (Nat × jS)}{f:FuncId}{fn:Func}(hf:P.funcs[f]? = some fn) {args:List SV}{res:SV}(hn:yN ((vP 0 (zJ fn)).map (·.1))=true)
  {T:Tree SV}(ht:jD cx (zH lps) fn args=T) (hl:AllK P [] fn.ntmps none noU (zJ fn) lps) (hd:qL res=true) (h:T.holds fun s=>LeS s res):FnOk P f args res:=by
 obtain⟨s,h1,h2⟩:=Tree.fG h
 exact (fn_at hm hf hn hl.all ht h2).le hd h1
end Go.Sx
namespace Go.Sx
open Go.RowKit
def Ty.flat:Ty->Bool
 |.sl _=>false
 |.pair a b=>a.flat&&b.flat
 |.arr e _=>e.flat
 |_=>true
theorem zG.flat{I I' : Nat->Prop}{w w' : World}:∀(t:Ty)(d:t.den)(vs:List Value),t.flat=true->zG I w t d vs->zG I' w' t d vs
 |.int _,_,_,_,h=>h
 |.bool,_,_,_,h=>h
 |.str,_,_,_,h=>h
 |.unit,_,_,_,h=>h
 |.pair a b,d,_,hf,h=>by
  simp only[Ty.flat,Bool.and_eq_true] at hf
  obtain⟨x,y,e,h1,h2⟩:=h
  exact⟨x,y,e,zG.flat a _ _ hf.1 h1,zG.flat b _ _ hf.2 h2⟩
 |.arr e n,l,_,hf,h=>⟨h.1,gN.mono (fun d xs hd=>zG.flat e d xs hf hd) h.2⟩
theorem zZ.flat{I I' : Nat->Prop}{w w' : World}{t:Ty}(ht:t.flat=true):∀(l:List t.den)(xs:List Value),zZ I w t l xs->zZ I' w' t l xs
 | [],_,h=>h
 |d::l,_,h=>by
  obtain⟨a,b,e,h1,h2⟩:=h
  exact⟨a,b,e,zG.flat t d a ht h1,zZ.flat ht l b h2⟩
def qY(P:Program)(f:FuncId)(args:List SV)(res:SV):Prop :=
 ∀(I:Nat->Prop)(w:World)(zM:List Value),(∀b,I b->b<w.heap.size)->zA (E0 I) noU w args zM ->
  Calls P f zM.toArray w fun e w' =>qL res=true/\∃v,e = .returned v/\Frm w (fun _=>False) w'/\∃I',(∀b,I' b->w.heap.size<=b)/\(∀b,I' b->b<w'.heap.size)/\Rep (E0 I') noU w' res v
def frOf(H:Hp):SV->Option SV
 |.own k=>match H k with
  |some (.row _ t l)=>if t.flat then some (.sl t l) else none
  |_=>none
 |s=>if isFlat s&&qL s then some s else none
def frOfL(H:Hp):List SV->Option (List SV)
 | []=>some []
 |s::l=>match frOf H s,frOfL H l with
  |some r,some q=>some (r::q)
  |_,_=>none
theorem frOf_ok{w0:World}{E:En}{U:Nat->Bool}{H:Hp}{w:World}(hs:HSat w0 (fun _=>False) E U H w) {s r:SV}{v:Value}(hr:frOf H s=some r) (hrep:Rep E U w s v) :
  qL r=true/\Rep (E0 fun b=>Mof E H b) noU w r v:=by
 unfold frOf at hr
 split at hr
 ·rename_i k
  split at hr<;>try (cases hr;done)
  rename_i e0 t l hrow
  split at hr<;>try (cases hr;done)
  rename_i hfl
  cases hr
  obtain⟨hU,xs,hown,hflat,hsv⟩:=hs.ob k _ hrow
  unfold Rep at hrep
  rw[hrep.2.1]
  refine⟨rfl,?_⟩
  by_cases hn:E.sv k = .slice none 0 0
  ·rw[hn] at hown ⊢
   unfold Rep
   refine⟨_,rfl,pA hown (zZ.flat hfl _ _ hflat) fun b hb=>?_⟩
   cases hb
  ·have hlive:jF E H k:=⟨_,hrow,hn⟩
   rcases hsv with h |⟨cap,h⟩
   ·exact absurd h hn
   unfold Rep
   refine⟨_,rfl,pA hown (zZ.flat hfl _ _ hflat) fun b hb=>?_⟩
   rw[h] at hb
   cases hb
   exact⟨k,hlive,rfl⟩
 ·split at hr<;>try (cases hr;done)
  rename_i hf
  rw[Bool.and_eq_true] at hf
  cases hr
  exact⟨hf.2,xD _ _ hf.1 hrep⟩
theorem frOfL_ok{w0:World}{E:En}{U:Nat->Bool}{H:Hp}{w:World}(hs:HSat w0 (fun _=>False) E U H w):∀{ss rs:List SV}{vs:List Value},frOfL H ss=some rs->zA E U w ss vs ->
  xK rs=true/\zA (E0 fun b=>Mof E H b) noU w rs vs
 | [],rs,vs,h,hr=>by
  cases h
  unfold zA at hr
  subst hr
  exact⟨rfl,zA.nil⟩
 |s::l,rs,vs,h,hr=>by
  simp only[frOfL] at h
  split at h<;>try (cases h;done)
  rename_i r q hr1 hq
  cases h
  unfold zA at hr
  obtain⟨v,u,rfl,h1,h2⟩:=hr
  obtain⟨a1,a2⟩:=frOf_ok hs hr1 h1
  obtain⟨b1,b2⟩:=frOfL_ok hs hq h2
  exact⟨by unfold xK;rw[a1,b1];rfl,zA.cons a2 b2⟩
theorem frRes_ok{w0:World}{E:En}{U:Nat->Bool}{H:Hp}{w:World}(hs:HSat w0 (fun _=>False) E U H w) {ss rs:List SV}{v:Value}(h:frOfL H ss=some rs) (hr:Rep E U w (qP ss) v) :
  qL (qP rs)=true/\Rep (E0 fun b=>Mof E H b) noU w (qP rs) v:=by
 match ss,h,hr with
 | [],h,hr=>
  cases h
  unfold qP at hr ⊢
  unfold Rep at hr ⊢
  obtain⟨vs,e,hl⟩:=hr
  exact⟨rfl,vs,e,(frOfL_ok hs (ss:=[]) rfl hl).2⟩
 | [s],h,hr=>
  simp only[frOfL] at h
  split at h<;>try (cases h;done)
  rename_i r q hr1 hq
  cases hq
  cases h
  exact frOf_ok hs hr1 hr
 |s1::s2::l,h,hr=>
  have h0:=h
  simp only[frOfL] at h
  split at h<;>try (cases h;done)
  rename_i r q hr1 hq
  split at hq<;>try (cases hq;done)
  cases hq
  cases h
  unfold qP at hr ⊢
  unfold Rep at hr ⊢
  obtain⟨vs,e,hl⟩:=hr
  obtain⟨b1,b2⟩:=frOfL_ok hs h0 hl
  exact⟨b1,vs,e,b2⟩
def frLeaf(P:Program)(fn:Func)(n:Nat)(e:Exit)(S:St):Tree SV :=
 let fin:=match zAd P n S fn.results.toList with
  |some ss=>match frOfL S.heap ss with
   |some rs=>.leaf (qP rs)
   |none=>.fail 10
  |none=>.fail 11
 match e with
 |.normal=>fin
 |.ret=>fin
 |_=>.fail 12
def frTree{P:Program}(cx:List (GC P)) (lp:Nat->Option jS) (fn:Func) (args:List SV):Tree SV :=
 match fn.body with
 |some c=>if Nat.ble args.length fn.ntmps then jR cx lp [] fn.ntmps 0 c (fW args) (fun _=>none) (fun e S _=>frLeaf P fn fn.ntmps e S) else .fail 13
 |none=>.fail 14
theorem fr_ok0{P:Program}(hm:P.follows .mixedOrders=true) {cx:List (GC P)}{lp:Nat->Option jS}{f:FuncId}{fn:Func}(hf:P.funcs[f]? = some fn) {args:List SV}{res:SV}
  (hl:∀c,fn.body=some c->wO P [] fn.ntmps none noU lp 0 c) (ht:(frTree cx lp fn args).holds fun s=>s=res):qY P f args res:=by
 intro I w zM hI hr
 unfold frTree at ht
 split at ht
 ·rename_i c hc
  split at ht
  ·rename_i hn
   have hn':=Nat.le_of_ble_eq_true hn
   have hvl:=hr.length
   let B:Bs:=⟨w,fun _=>False,E0 I,noU,fn.ntmps,[]⟩
   have hsat:Sat B (fW args) { tmps:=zM.toArray++Array.replicate (fn.ntmps - zM.toArray.size) undef,defers:=[] } w:=by
    refine⟨E0 I,⟨by simp[B];omega,wN.refl _ _ _ _,fun t ht=>?_,HSat.start hI,En.Le.refl _ _ _,fun b hb=>.inl hb⟩⟩
    show Rep (E0 I) noU w (args.getD t (.tup [])) _
    rcases Nat.lt_or_ge t args.length with h |h
    ·obtain⟨v,hv,hrv⟩:=hr.get (i:=t) (c:=args[t]) (List.getElem?_eq_getElem h)
     rw[show args.getD t (.tup [])=args[t] from by simp[List.getD,List.getElem?_eq_getElem h]]
     have hlt:t<zM.length:=by omega
     have:(zM.toArray++Array.replicate (fn.ntmps - zM.toArray.size) undef).getD t undef=v:=by
      rw[List.getElem?_eq_getElem hlt] at hv
      have h1:(zM.toArray++Array.replicate (fn.ntmps - zM.toArray.size) undef)[t]? = some v:=by
       rw[Array.getElem?_append_left (by simpa using hlt)]
       simpa[List.getElem?_eq_getElem hlt] using hv
      simp only[Array.getD_eq_getD_getElem?,h1,Option.getD_some]
     rw[this];exact hrv
    ·rw[show args.getD t (.tup []) = .tup [] from by simp[List.getD,List.getElem?_eq_none h]]
     have:(zM.toArray++Array.replicate (fn.ntmps - zM.toArray.size) undef).getD t undef=undef:=by
      have h1:(zM.toArray++Array.replicate (fn.ntmps - zM.toArray.size) undef)[t]? = (Array.replicate (fn.ntmps - zM.toArray.size) undef)[t - zM.length]?:=by
       rw[Array.getElem?_append_right (by simpa using by omega)]
       simp
      simp only[Array.getD_eq_getD_getElem?,h1,Array.getElem?_replicate]
      split<;>rfl
     rw[this]
     exact q_ _ _ _
   refine (callsIn_wide (n:=0)).1 (callsIn_of_wp_marks (F:=FR none) hf hc trivial ?_ rfl)
   refine jA hm (r0:=none) (u0:=noU) (B:=B) (fun k hk=>by cases hk) (fun h hh=>by cases hh) c 0 (fW args) _ _ _ (hl c hc) (jP _ _) ht ?_ _ w hsat
   intro e S' K' a' w' _ hs' hk
   have fin:(match zAd P fn.ntmps S' fn.results.toList with
     |some ss=>match frOfL S'.heap ss with
      |some rs=>.leaf (qP rs)
      |none=>.fail 10
     |none=>.fail 11:Tree SV).holds (fun s=>s=res)->LeavesInM (FR none) 0 P fn a'.tmps (fun e w' =>qL res=true/\∃v,e = .returned v/\Frm w (fun _=>False) w'/\∃I',(∀b,I' b->w.heap.size<=b)/\(∀b,I' b->b<w'.heap.size)/\Rep (E0 I') noU w' res v) a'.defers .returning w':=by
    intro hk
    obtain⟨E,hsE⟩:=hs'
    obtain⟨ds,hds,hnd,hd⟩:=hsE.defers
    replace hds:a'.defers=ds.map mark:=by rw[hds];exact List.append_nil _
    have hsE:=SatE.shut (B:=B) ds hnd w' ⟨hsE.size,wN.refl _ _ _ _,hsE.tmps,hsE.heap,hsE.le,hsE.fresh⟩ hd
    rw[hds]
    refine xJ ds hnd w' (fun d hm=>(hd d hm).2.1) ?_
    split at hk<;>try (exact hk.elim)
    rename_i ss hss
    split at hk<;>try (exact hk.elim)
    rename_i rs hr
    have hres:qP rs=res:=hk
    subst hres
    obtain⟨v,hrun,hrep⟩:=kK (fn:=fn) hsE hss
    obtain⟨g1,g2⟩:=frRes_ok hsE.heap hr hrep
    refine⟨v,hrun,g1,v,rfl,hsE.heap.frame,fun b=>Mof E S'.heap b,?_,?_,g2⟩
    ·rintro b ⟨k,hk,rfl⟩
     rcases hsE.heap.mine k hk with h |h
     ·exact h.elim
     ·exact h
    ·rintro b ⟨k,hk,rfl⟩
     exact hsE.heap.jV hk
   cases e with
   |normal=>exact fin hk
   |ret=>exact fin hk
   |exit id=>exact hk.elim
   |goto l=>exact hk.elim
   |panic ch=>exact hk.elim
   |outgrown=>exact hk.elim
  ·exact ht.elim
 ·exact ht.elim
structure FC (P:Program) where
 f:FuncId
 ps:List Sh
 pre:wM ps->Option Prop
 out:wM ps->SV
 ent:entB P f=true
 ok:∀x,ndP (pre x)->qY P f (z_ 0 ps x) (out x)
def FC.con{P:Program}(c:FC P):Con:=fun args H _=>match decL c.ps (vwL H args) with
 |some x=>some { need:=c.pre x,res:=c.out x }
 |none=>none
theorem FC.conOk{P:Program}(c:FC P):ConOk P c.f c.con:=by
 intro args H base eff he E U w zM hs hr _ hnd
 simp only[FC.con] at he
 split at he<;>try (cases he;done)
 rename_i x hx
 cases he
 obtain⟨E1,hle1,hs1,hfr⟩:=hs.wC (wX args) E H
 have hv:=fX (H:=H) hs1 args zM (fun k hk=>by simp[hk]) (zA.mono hle1 _ _ hr)
 have hargs:=decL_ok (E:=E1) (E':=E0 E1.I) (U':=noU) rfl 0 hx hv
 refine (c.ok x hnd E1.I w zM hs1.lt hargs).mono ?_
 rintro e w' ⟨hdat,v,rfl,hf,I',hI1,hI2,hrep⟩
 refine⟨v,rfl,?_⟩
 simp only[vC,apH_nil]
 obtain⟨h1,h2⟩:=hs.still hf (I':=fun b=>E.I b\/I' b) (fun _ h=>.inl h) (fun b h=>h.imp_right (hI1 b)) (fun b hb=>hb.elim (fun h=>Nat.lt_of_lt_of_le (hs.lt b h) hf.size) (hI2 b))
 refine⟨_,h1,h2,fun b hb=>hb.imp_right fun h=>.inr (hI1 b h),?_⟩
 have hd:=zI (E:=E0 I') (E':={ E with I:=I' }) (U':=U) rfl _ _ hdat hrep
 exact Rep.mono (E:={ E with I:=I' }) (E':={ E with I:=fun b=>E.I b\/I' b }) (U:=U) (w:=w') ⟨fun _ h=>h,fun _ _=>rfl,fun _ _=>rfl,fun b h=>Or.inr (a:=E.I b) h,fun _ _=>rfl,fun _ _=>rfl⟩ _ _ hd
def FC.gc{P:Program}(c:FC P):GC P:={ f:=c.f,con:=c.con,ent:=c.ent,ok:=c.conOk }
def FC.of{P:Program}{α:Type}(f:FuncId) (ps:List Sh) (to:wM ps->α) (of:α->wM ps) (hof:∀x,of (to x)=x) (pre:α->Option Prop) (out:α->SV) (ent:entB P f=true) (ok:∀a,ndP (pre a)->qY P f (z_ 0 ps (of a)) (out a)):FC P where
 f:=f
 ps:=ps
 pre:=fun x=>pre (to x)
 out:=fun x=>out (to x)
 ent:=ent
 ok:=fun x hx=>by have:=ok (to x) hx;rwa [hof] at this
theorem fr_of{P:Program}(hm:P.follows .mixedOrders=true) {cx:List (GC P)}{lps:List (Nat × jS)}{f:FuncId}{fn:Func}(hf:P.funcs[f]? = some fn) {args:List SV}{res:SV}(hn:yN ((vP 0 (zJ fn)).map (·.1))=true)
  {T:Tree SV}(ht:frTree cx (zH lps) fn args=T) (hl:AllK P [] fn.ntmps none noU (zJ fn) lps) (h:T.holds fun s=>s=res):qY P f args res:=by
 subst ht
 refine fr_ok0 hm hf (fun c hc=>?_) h
 have e:zJ fn=c:=by unfold zJ;rw[hc]
 have hl:=hl.all
 rw[e] at hn hl
 exact loopsOk_lp hn hl
theorem qV.le{P:Program}{f:FuncId}{L:Lay}{x:L.den}{s r:SV}{bx:List (List SV)}{ns:List Ob}(h:qV P f L x ⟨s,bx,ns⟩) (hl:LeS s r):qV P f L x ⟨r,bx,ns⟩:=by
 intro E w zM hs hr
 refine (h E w zM hs hr).mono ?_
 rintro e w' ⟨v,rfl,E',U',h1,h2,h3,h4⟩
 exact⟨v,rfl,E',U',h1,h2,h3,LeS.rep _ _ _ hl h4⟩
theorem m_le{P:Program}(hm:P.follows .mixedOrders=true) {cx:List (GC P)}{lps:List (Nat × jS)}{f:FuncId}{fn:Func}(hf:P.funcs[f]? = some fn) {L:Lay}{own:Bool}{x:L.den}{o:MOut}(hok:L.mok=true) (hn:yN ((vP 0 (zJ fn)).map (·.1))=true)
  {T:Tree MOut}(ht:jG cx (zH lps) fn L own x=T) (hl:AllK P [] fn.ntmps none (L.st noU x).used (zJ fn) lps) (h:T.holds fun s=>LeS s.res o.res/\s.boxes=o.boxes/\s.news=o.news):qV P f L x o:=by
 obtain⟨s,⟨h1,h2,h3⟩,h4⟩:=Tree.fG h
 have:=yG hm hf hok hn ht hl h4
 obtain⟨sr,sb,sn⟩:=s
 obtain⟨r,bx,ns⟩:=o
 cases h2
 cases h3
 exact this.le h1
end Go.Sx
namespace Go.Sx
open Go
set_option linter.unusedVariables false
def encA:Nat->Nat->(l:List Sh)->wM l->List SV
 |n+1,i,.agg t::r,d=>.adr t d.1::encA n (i+1) r d.2
 |_,i,l,d=>z_ i l d
theorem E0_le{I1 I2:Nat->Prop}{w:World}(h:∀b,I1 b->I2 b):En.Le noU noU (E0 I1) (E0 I2) w w:=⟨fun _ h=>h,fun _ _=>rfl,fun _ _=>rfl,h,fun _ _=>rfl,fun _ _=>rfl⟩
end Go.Sx
set_option linter.unusedVariables false
set_option linter.unusedSimpArgs false
namespace Go.Sx
open Go
mutual
def xN:SV->SV->Prop
 |.nils,.own k=>k=zC
 |.agg cs,.agg ds=>NilL cs ds
 |.tup cs,.tup ds=>NilL cs ds
 |s,r=>s=r/\qL s=true
def NilL:List SV->List SV->Prop
 | [],[]=>True
 |c::cs,d::ds=>xN c d/\NilL cs ds
 |_,_=>False
end
mutual
theorem xN.rep{E E' : En}{U U' : Nat->Bool}{w:World}(hI:E'.I=E.I) (hu:U' zC=true) (hv:E'.sv zC = .slice none 0 0):∀(s r:SV)(v:Value),xN s r->Rep E U w s v->Rep E' U' w r v
 |.agg cs,r,v,h,hr=>by
  cases r with
  |agg ds=>
   unfold xN at h
   unfold Rep at hr ⊢
   obtain⟨vs,e,hl⟩:=hr
   exact⟨vs,e,NilL.rep hI hu hv cs ds vs h hl⟩
  |_=>unfold xN at h;rw[<- h.1];exact zI hI _ _ h.2 hr
 |.tup cs,r,v,h,hr=>by
  cases r with
  |tup ds=>
   unfold xN at h
   unfold Rep at hr ⊢
   obtain⟨vs,e,hl⟩:=hr
   exact⟨vs,e,NilL.rep hI hu hv cs ds vs h hl⟩
  |_=>unfold xN at h;rw[<- h.1];exact zI hI _ _ h.2 hr
 |.nils,r,v,h,hr=>by
  cases r with
  |own k=>
   unfold xN at h
   subst h
   unfold Rep at hr ⊢
   subst hr
   exact⟨hu,hv.symm,_,_,_,rfl⟩
  |_=>unfold xN at h;rw[<- h.1];exact zI hI _ _ h.2 hr
 |.any,r,v,h,hr=>by unfold xN at h;rw[<- h.1];exact zI hI _ _ h.2 hr
 |.int ..,r,v,h,hr=>by unfold xN at h;rw[<- h.1];exact zI hI _ _ h.2 hr
 |.bool ..,r,v,h,hr=>by unfold xN at h;rw[<- h.1];exact zI hI _ _ h.2 hr
 |.str ..,r,v,h,hr=>by unfold xN at h;rw[<- h.1];exact zI hI _ _ h.2 hr
 |.sl ..,r,v,h,hr=>by unfold xN at h;rw[<- h.1];exact zI hI _ _ h.2 hr
 |.osl ..,r,v,h,hr=>by unfold xN at h;rw[<- h.1];exact zI hI _ _ h.2 hr
 |.nsl ..,r,v,h,hr=>by unfold xN at h;rw[<- h.1];exact zI hI _ _ h.2 hr
 |.sub ..,r,v,h,hr=>by unfold xN at h;rw[<- h.1];exact zI hI _ _ h.2 hr
 |.bsl ..,r,v,h,hr=>by unfold xN at h;rw[<- h.1];exact zI hI _ _ h.2 hr
 |.adr ..,r,v,h,hr=>by unfold xN at h;rw[<- h.1];exact zI hI _ _ h.2 hr
 |.ptr ..,r,v,h,hr=>by unfold xN at h;rw[<- h.1];exact zI hI _ _ h.2 hr
 |.nilp,r,v,h,hr=>by unfold xN at h;rw[<- h.1];exact zI hI _ _ h.2 hr
 |.own ..,r,v,h,hr=>by unfold xN at h;rw[<- h.1];exact zI hI _ _ h.2 hr
 |.oel ..,r,v,h,hr=>by unfold xN at h;rw[<- h.1];exact zI hI _ _ h.2 hr
 |.fn ..,r,v,h,hr=>by unfold xN at h;rw[<- h.1];exact zI hI _ _ h.2 hr
 |.yld ..,r,v,h,hr=>by unfold xN at h;rw[<- h.1];exact zI hI _ _ h.2 hr
 |.mp ..,r,v,h,hr=>by unfold xN at h;rw[<- h.1];exact zI hI _ _ h.2 hr
 |.arr ..,r,v,h,hr=>by unfold xN at h;rw[<- h.1];exact zI hI _ _ h.2 hr
 |.big ..,r,v,h,hr=>by unfold xN at h;rw[<- h.1];exact zI hI _ _ h.2 hr
theorem NilL.rep{E E' : En}{U U' : Nat->Bool}{w:World}(hI:E'.I=E.I) (hu:U' zC=true) (hv:E'.sv zC = .slice none 0 0):∀(cs ds:List SV)(vs:List Value),NilL cs ds->zA E U w cs vs->zA E' U' w ds vs
 | [],[],vs,_,hr=>by unfold zA at *;exact hr
 | [],_::_,vs,h,_=>by unfold NilL at h;exact h.elim
 |_::_,[],vs,h,_=>by unfold NilL at h;exact h.elim
 |c::cs,d::ds,vs,h,hr=>by
  unfold NilL at h
  unfold zA at hr
  obtain⟨v,u,e,h1,h2⟩:=hr
  subst e
  exact zA.cons (xN.rep hI hu hv c d v h.1 h1) (NilL.rep hI hu hv cs ds u h.2 h2)
end
theorem qV.nil{P:Program}{f:FuncId}{L:Lay}{x:L.den}{s r:SV}{e:TypeId}{t:Ty}(h:qV P f L x ⟨s,[],[]⟩) (hu:(L.st noU x).used zC=false) (hfx:yO L.shs=[]) (hn:xN s r):qV P f L x ⟨r,[],[.row e t []]⟩:=by
 intro E w zM hs hr
 refine (h E w zM hs hr).mono ?_
 rintro e0 w' ⟨v,rfl,E',U',hle,hsat,hfr,hrep⟩
 have hlook:∀l k,pW l [] k=none:=fun l k=>by cases l<;>rfl
 have hH:∀k o,(MOut.heap ⟨r,[],[.row e t []]⟩ L) k=some o->k=zC/\o = .row e t []:=by
  intro k o hk
  have hlf:∀l k,kR [] l k=none:=fun l k=>by cases l<;>rfl
  simp only[MOut.heap,hlook,hfx,hlf,List.length_nil,List.drop_zero,kA,zX] at hk
  by_cases hkn:k=zC
  ·rw[hkn] at hk ⊢
   simp only[decide_true,cond_true,Option.some.injEq] at hk
   exact⟨rfl,hk.symm⟩
  ·simp only[hkn,decide_false,cond_false] at hk
   cases hk
 refine⟨v,rfl,{ E with I:=E'.I,sv:=fun k=>bif Nat.beq k zC then .slice none 0 0 else E.sv k },fun k=>(L.st noU x).used k||Nat.beq k zC,?_,?_,hfr,?_⟩
 ·refine⟨fun k hk=>by simp only[hk,Bool.true_or],fun _ _=>rfl,fun k hk=>?_,hle.imm,hle.heap,fun _ _=>rfl⟩
  have hne:k≠zC:=fun he=>by rw[he,hu] at hk;cases hk
  simp only[zX,hne,decide_false,cond_false]
 ·have hlive:∀k,¬ jF { E with I:=E'.I,sv:=fun k=>bif Nat.beq k zC then .slice none 0 0 else E.sv k } (MOut.heap ⟨r,[],[.row e t []]⟩ L) k:=by
   rintro k ⟨o,hk,hl⟩
   obtain⟨rfl,rfl⟩:=hH k o hk
   exact hl (by simp only[Nat.beq_refl,cond_true])
  refine⟨fun k o hk=>?_,fun j k hj=>(hlive j hj).elim,fun k hk=>(hlive k hk).elim,hsat.lt,fun k hk=>(hlive k hk).elim,hsat.frame⟩
  obtain⟨rfl,rfl⟩:=hH k o hk
  refine⟨by simp only[Nat.beq_refl,Bool.or_true],[],?_,rfl,.inl (by simp only[Nat.beq_refl,cond_true])⟩
  simp only[Nat.beq_refl,cond_true]
  exact ownR_nil w' e t.size
 ·refine xN.rep (E:=E') (E':={ E with I:=E'.I,sv:=fun k=>bif Nat.beq k zC then .slice none 0 0 else E.sv k }) (U:=U') rfl ?_ rfl s r v hn hrep
  show ((L.st noU x).used zC||true)=true
  exact Bool.or_true _
theorem m_nil{P:Program}(hm:P.follows .mixedOrders=true) {cx:List (GC P)}{lps:List (Nat × jS)}{f:FuncId}{fn:Func}(hf:P.funcs[f]? = some fn) {L:Lay}{own:Bool}{x:L.den}{r:SV}{e:TypeId}{t:Ty}{l:List t.den}(hok:L.mok=true) (hn:yN ((vP 0 (zJ fn)).map (·.1))=true)
  {T:Tree MOut}(ht:jG cx (zH lps) fn L own x=T) (hl:AllK P [] fn.ntmps none (L.st noU x).used (zJ fn) lps) (hu:(L.st noU x).used zC=false) (hfx:yO L.shs=[])
  (h:T.holds fun s=>s=⟨r,[],[.row e t l]⟩\/(s.boxes=[]/\s.news=[]/\l=[]/\xN s.res r)):qV P f L x ⟨r,[],[.row e t l]⟩:=by
 obtain⟨s,h3,h4⟩:=Tree.fG h
 rcases h3 with rfl |⟨h1,h2,rfl,h3⟩
 ·exact yG hm hf hok hn ht hl h4
 ·have:=yG hm hf hok hn ht hl h4
  obtain⟨sr,sb,sn⟩:=s
  cases h1
  cases h2
  exact this.nil hu hfx h3
theorem qV.byNil{P:Program}{f:FuncId}{t:Ty}{l:List t.den}{o:MOut}{rb:Nat}(h:∀b,(b=true->l=[])->qV P f ⟨[(0,.oval t)],[],[],rb⟩ ((l,b),()) o):qV P f ⟨[(0,.val (.sl t))],[],[],rb⟩ (l,()) o:=by
 intro E w zM hs hr
 have hr' : zA E _ w [SV.sl t l] zM:=hr
 unfold zA at hr'
 obtain⟨v,r,rfl,hv,hr2⟩:=hr'
 classical
 refine h (decide (∃n c,v = .slice none n c)) (fun hb=>?_) E w _ hs ?_
 ·obtain⟨n,c,hn⟩:=dcT hb
  unfold Rep at hv
  obtain⟨u,hu,p,cap,e,_,hl⟩:=hv
  cases hu
  rcases hl with hl |⟨b,o,hp,_⟩
  ·exact hl
  ·rw[hn] at e
   cases e
   cases hp
 ·show zA E _ w [SV.nsl t l _] (v::r)
  refine zA.cons ?_ hr2
  unfold Rep at hv ⊢
  exact⟨hv,decide_eq_true_iff⟩
theorem qY.le{P:Program}{f:FuncId}{args:List SV}{s r:SV}(h:qY P f args s) (hd:qL r=true) (hl:LeS s r):qY P f args r:=by
 intro I w zM hI hr
 refine (h I w zM hI hr).mono ?_
 rintro e w' ⟨_,v,he,hf,I',h1,h2,hrep⟩
 exact⟨hd,v,he,hf,I',h1,h2,LeS.rep s r v hl hrep⟩
theorem fr_le{P:Program}(hm:P.follows .mixedOrders=true) {cx:List (GC P)}{lps:List (Nat × jS)}{f:FuncId}{fn:Func}(hf:P.funcs[f]? = some fn) {args:List SV}{res:SV}(hn:yN ((vP 0 (zJ fn)).map (·.1))=true)
  {T:Tree SV}(ht:frTree cx (zH lps) fn args=T) (hl:AllK P [] fn.ntmps none noU (zJ fn) lps) (hd:qL res=true) (h:T.holds fun s=>LeS s res):qY P f args res:=by
 obtain⟨s,h1,h2⟩:=Tree.fG h
 exact (fr_of (res:=s) hm hf hn ht hl h2).le hd h1
end Go.Sx
set_option linter.unusedVariables false
namespace Go.Sx
open Go Go.RowKit
def Ty.ofBox:(t:Ty)->List SV->Option (t.den × List SV)
 |.pair a b,r=>match a.ofBox r with
  |some (x,r1)=>match b.ofBox r1 with
   |some (y,r2)=>some ((x,y),r2)
   |none=>none
  |none=>none
 |.arr e n,.arr t m l::r=>if h:Ty.beq t e=true/\Nat.beq m n=true then some (show List e.den from (Ty.beq_eq h.1) ▸ l,r) else none
 |.int k,.int j n::r=>if kB j k then some (n,r) else none
 |.bool,.bool b::r=>some (b,r)
 |.str,.str s::r=>some (s,r)
 |.unit,r=>some ((),r)
 |.sl e,.sl t l::r=>if h:Ty.beq t e=true then some (show List e.den from (Ty.beq_eq h) ▸ l,r) else none
 |.sl e,.nils::r=>some (show List e.den from [],r)
 |_,_=>none
theorem Ty.ofBox_rep{E:En}{U:Nat->Bool}{w:World}:∀(t:Ty)(cs:List SV)(vs:List Value)(d:t.den)(r:List SV),t.ofBox cs=some (d,r)->zA E U w cs vs ->
  ∃x vr,zP cs vs=x++zP r vr/\zG E.I w t d x/\zA E U w r vr
 |.pair a b,cs,vs,d,r,h,hr=>by
  simp only[Ty.ofBox] at h
  split at h<;>try contradiction
  rename_i x r1 h1
  split at h<;>try contradiction
  rename_i y r2 h2
  cases h
  obtain⟨u,v,e1,hd,hrest⟩:=Ty.ofBox_rep a _ _ _ _ h1 hr
  obtain⟨u2,v2,e2,hd2,hrest2⟩:=Ty.ofBox_rep b _ _ _ _ h2 hrest
  exact⟨u++u2,v2,by rw[e1,e2,List.append_assoc],⟨u,u2,rfl,hd,hd2⟩,hrest2⟩
 |.unit,cs,vs,d,r,h,hr=>by
  simp only[Ty.ofBox,Option.some.injEq] at h
  cases h
  exact⟨[],vs,rfl,rfl,hr⟩
 |.arr e n,cs,vs,d,r,h,hr=>by
  match cs,h,hr with
  |.arr t m l::r',h,hr=>
   simp only[Ty.ofBox] at h
   split at h<;>try contradiction
   rename_i hb
   have e1:=Ty.beq_eq hb.1
   have e2:=nbT hb.2
   subst e1 e2
   cases h
   unfold zA at hr
   obtain⟨v,q,rfl,h1,h2⟩:=hr
   unfold Rep at h1
   obtain⟨xs,e3,hn,hf⟩:=h1
   exact⟨xs,q,by rw[zP,e3];simp[jU,Value.cells],⟨hn,hf.toR⟩,h2⟩
 |.int k,cs,vs,d,r,h,hr=>by
  match cs,h,hr with
  |.int j n::r',h,hr=>
   simp only[Ty.ofBox] at h
   split at h<;>try contradiction
   rename_i hk
   have hk':=gY hk
   subst hk'
   cases h
   unfold zA at hr
   obtain⟨v,q,rfl,h1,h2⟩:=hr
   unfold Rep at h1
   subst h1
   exact⟨[_],q,rfl,rfl,h2⟩
 |.bool,cs,vs,d,r,h,hr=>by
  match cs,h,hr with
  |.bool b::r',h,hr=>
   cases h
   unfold zA at hr
   obtain⟨v,q,rfl,h1,h2⟩:=hr
   unfold Rep at h1
   subst h1
   exact⟨[_],q,rfl,rfl,h2⟩
 |.str,cs,vs,d,r,h,hr=>by
  match cs,h,hr with
  |.str b::r',h,hr=>
   cases h
   unfold zA at hr
   obtain⟨v,q,rfl,h1,h2⟩:=hr
   unfold Rep at h1
   subst h1
   exact⟨[_],q,rfl,rfl,h2⟩
 |.sl e,cs,vs,d,r,h,hr=>by
  match cs,h,hr with
  |.sl t l::r',h,hr=>
   simp only[Ty.ofBox] at h
   split at h<;>try contradiction
   rename_i hb
   have hte:=Ty.beq_eq hb
   subst hte
   cases h
   unfold zA at hr
   obtain⟨v,q,rfl,h1,h2⟩:=hr
   unfold Rep at h1
   exact⟨[v],q,rfl,h1,h2⟩
  |.nils::r',h,hr=>
   cases h
   unfold zA at hr
   obtain⟨v,q,rfl,h1,h2⟩:=hr
   unfold Rep at h1
   subst h1
   exact⟨[_],q,rfl,⟨_,rfl,none,0,rfl,Nat.le_refl _,.inl rfl⟩,h2⟩
def tailP(H:Hp):SV->Option (List SV)
 |.ptr k off=>match H k with
  |some (.box cells)=>match pQ off cells with
   |some (_,rest)=>some rest
   |none=>none
  |_=>none
 |_=>none
theorem tailP_some{H:Hp}{v:SV}{rest:List SV}(h:tailP H v=some rest):∃k off cells pre,v = .ptr k off/\H k=some (.box cells)/\pQ off cells=some (pre,rest):=by
 cases v<;>simp only[tailP] at h<;>try (cases h;done)
 rename_i k off
 split at h<;>try (cases h;done)
 rename_i cells hH
 split at h<;>try (cases h;done)
 rename_i pre rest' hsp
 cases h
 exact⟨k,off,cells,pre,rfl,hH,hsp⟩
def decP(H:Hp)(t:Ty)(v:SV):Option t.den :=
 match v with
 |.adr t' d=>if h:Ty.beq t' t=true then some ((Ty.beq_eq h) ▸ d) else none
 |v=>match tailP H v with
  |some rest=>if Nat.ble 1 t.size then match t.ofBox (vwL H rest) with
   |some (d,_)=>some d
   |none=>none
   else none
  |none=>none
def xL(H:Hp):(l:List Sh)->List SV->Option (wM l)
 | [],[]=>some ()
 |.adr t::r,v::q=>match decP H t v,xL H r q with
  |some d,some x=>some (d,x)
  |_,_=>none
 |.val t::r,v::q=>match Sh.dec (.val t) (vw H v),xL H r q with
  |some d,some x=>some (d,x)
  |_,_=>none
 |.agg t::r,v::q=>match Sh.dec (.agg t) (vw H v),xL H r q with
  |some d,some x=>some (d,x)
  |_,_=>none
 |_,_=>none
def idsX(H:Hp):List SV->List Nat
 |v::q=>(match tailP H v with
  |some rest=>wX rest
  |none=>vW v)++idsX H q
 | []=>[]
theorem decP_ok{w0:World}{M:Nat->Prop}{E E1:En}{U:Nat->Bool}{H H1:Hp}{w:World}(hs:HSat w0 M E U H w) (hs1:HSat w0 M E1 U H1 w) (hle:En.Le U U E E1 w w) {t:Ty}{v:SV}{u:Value}{d:t.den}
  (hk:∀rest,tailP H v=some rest->∀k∈wX rest,H1 k=qU (H k)) (h:decP H t v=some d) (hr:Rep E U w v u) :
  ∃B:Nat->Prop,(∀b,B b->b<w.heap.size)/\Rep (E0 fun b=>E1.I b\/B b) noU w (.adr t d) u:=by
 unfold decP at h
 split at h
 ·split at h<;>try (cases h;done)
  rename_i hb
  have e:=Ty.beq_eq hb
  subst e
  cases h
  refine⟨fun _=>False,fun b hb=>hb.elim,?_⟩
  unfold Rep at hr ⊢
  obtain⟨b,o,cs,ev,hI,hrow,hd⟩:=hr
  exact⟨b,o,cs,ev,.inl (hle.imm b hI),hrow,zG.mono (fun b hb=>.inl (hle.imm b hb)) (fun _ _=>rfl) _ _ _ hd⟩
 ·split at h<;>try (cases h;done)
  rename_i rest htail
  split at h<;>try (cases h;done)
  rename_i hsz
  have hsz:=Nat.le_of_ble_eq_true hsz
  split at h<;>try (cases h;done)
  rename_i d' r hd
  cases h
  have htail0:=htail
  obtain⟨k,off,cells,pre,rfl,hH,hsp⟩:=tailP_some htail
  obtain⟨_,vs,ty,hh,hcells⟩:=hs.ob k _ hH
  unfold Rep at hr
  obtain⟨ecs,a,b,ev,h1,h2,h3⟩:=gT hsp hcells
  have hv:=fX (H:=H) hs1 rest b (fun k hk' =>hk rest htail0 k hk') (zA.mono hle _ _ h2)
  obtain⟨x,vr,e1,hdr,_⟩:=Ty.ofBox_rep t _ _ _ _ hd hv
  have e2:zP (vwL H rest) b=zP rest b:=wI (vwL_mask H rest)
  have e3:zP cells vs=zP pre a++(x++zP r vr):=by
   rw[ecs,ev,vX h1.length,<- e2,e1]
  have hrow:=heap_row hh off x.length
  rw[e3,show off=(zP pre a).length from h3.symm,List.drop_left,List.take_left] at hrow
  have hlt:E.ρ k<w.heap.size:=(Array.getElem?_eq_some_iff.1 hh).1
  refine⟨fun b=>b=E.ρ k,fun b e=>e ▸ hlt,?_⟩
  unfold Rep
  exact⟨E.ρ k,off,x,hr.2,.inr rfl,by rw[<- h3];exact hrow,zG.mono (fun _ h=>.inl h) (fun _ _=>rfl) _ _ _ hdr⟩
theorem decX_ok{w0:World}{M:Nat->Prop}{E E1:En}{U:Nat->Bool}{H H1:Hp}{w:World}(hs:HSat w0 M E U H w) (hs1:HSat w0 M E1 U H1 w) (hle:En.Le U U E E1 w w) :
  ∀(i:Nat)(l:List Sh)(args:List SV)(zM:List Value)(x:wM l),(∀k∈idsX H args,H1 k=qU (H k))->xL H l args=some x->zA E U w args zM ->
   ∃B:Nat->Prop,(∀b,B b->b<w.heap.size)/\zA (E0 fun b=>E1.I b\/B b) noU w (z_ i l x) zM
 |i,[],[],zM,x,_,_,hr=>⟨fun _=>False,fun b hb=>hb.elim,by unfold zA at hr;subst hr;exact zA.nil⟩
 |i,[],_::_,_,_,_,h,_=>by simp[xL] at h
 |i,s::_,[],_,_,_,h,_=>by cases s<;>simp[xL] at h
 |i,s::r,v::q,zM,x,hk,h,hr=>by
  unfold zA at hr
  obtain⟨u,ur,e,hv,hu⟩:=hr
  subst e
  have tail:∀y,xL H r q=some y->∃B:Nat->Prop,(∀b,B b->b<w.heap.size)/\zA (E0 fun b=>E1.I b\/B b) noU w (z_ (i+1) r y) ur :=
   fun y hy=>decX_ok hs hs1 hle (i+1) r q ur y (fun k hk' =>hk k (List.mem_append_right _ hk')) hy hu
  have data:∀(hval:s=s)(d:s.den)(y:wM r),s.dec (vw H v)=some d->xL H r q=some y->tailP H v=none->∃B:Nat->Prop,(∀b,B b->b<w.heap.size)/\zA (E0 fun b=>E1.I b\/B b) noU w (z_ i (s::r) (d,y)) (u::ur):=by
   intro _ d y hd hy ht
   obtain⟨B,hB,hrest⟩:=tail y hy
   refine⟨B,hB,zA.cons ?_ hrest⟩
   have hvv:=vw_rep (H:=H) hs1 v u (fun k hk' =>hk k (by unfold idsX;rw[ht];exact List.mem_append_left _ hk')) (Rep.mono hle _ _ hv)
   have:=Sh.dec_ok (E:=E1) (E':=E0 E1.I) (U':=noU) rfl i hd hvv
   exact Rep.mono (E0_le (w:=w) fun b hb=>.inl hb) _ _ this
  have notail:∀(d:s.den),s.dec (vw H v)=some d->(∀t,s ≠ .adr t)->tailP H v=none:=by
   intro d hd hne
   cases htl:tailP H v with
   |none=>rfl
   |some rest=>
    cases v<;>simp[tailP] at htl
    rename_i k off
    rw[show vw H (.ptr k off) = .ptr k off from by unfold vw;rfl] at hd
    cases s with
    |val t=>
     simp only[Sh.dec] at hd
     split at hd<;>try (cases hd;done)
     rename_i d' hd'
     exact absurd hd' (by
      have key:∀(t:Ty)(r q:List SV)(d:t.den),t.vO (.ptr k off::r)=some (d,q)->q = .ptr k off::r:=by
       intro t
       induction t with
       |pair a b iha ihb=>
        intro r q d h
        simp only[Ty.vO] at h
        split at h<;>try (cases h;done)
        rename_i x r1 h1
        have e:=iha _ _ _ h1
        subst e
        split at h<;>try (cases h;done)
        rename_i y r2 h2
        cases h
        exact ihb _ _ _ h2
       |unit=>intro r q d h;simp only[Ty.vO,Option.some.injEq] at h;exact (congrArg Prod.snd h).symm
       |_=>intro r q d h;simp[Ty.vO] at h
      intro hc
      have:=key _ _ _ _ hc
      cases this)
    |agg t=>simp only[Sh.dec] at hd;cases hd
    |adr t=>exact absurd rfl (hne t)
    |_=>simp[Sh.dec] at hd
  cases s with
  |adr t=>
   simp only[xL] at h
   split at h<;>try (cases h;done)
   rename_i d y hd hy
   cases h
   obtain⟨B1,hB1,h1⟩:=decP_ok hs hs1 hle (fun rest hrest k hk' =>hk k (by unfold idsX;rw[hrest];exact List.mem_append_left _ hk')) hd hv
   obtain⟨B2,hB2,h2⟩:=tail y hy
   refine⟨fun b=>B1 b\/B2 b,fun b hb=>hb.elim (hB1 b) (hB2 b),zA.cons ?_ ?_⟩
   ·exact Rep.mono (E0_le (w:=w) fun b hb=>hb.elim .inl fun h=>.inr (.inl h)) _ _ h1
   ·exact zA.mono (E0_le (w:=w) fun b hb=>hb.elim .inl fun h=>.inr (.inr h)) _ _ h2
  |val t=>
   simp only[xL] at h
   split at h<;>try (cases h;done)
   rename_i d y hd hy
   cases h
   exact data rfl d y hd hy (notail d hd fun _ e=>by cases e)
  |agg t=>
   simp only[xL] at h
   split at h<;>try (cases h;done)
   rename_i d y hd hy
   cases h
   exact data rfl d y hd hy (notail d hd fun _ e=>by cases e)
  |_=>simp[xL] at h
mutual
def isFr:SV->Bool
 |.sl _ _ |.osl _ _ |.nsl _ _ _ |.adr _ _ |.arr _ _ _ |.big _ |.fn _ _ |.yld _ |.mp _ |.sub _ _ _ _ |.bsl _ _=>false
 |.agg cs=>isFrL cs
 |.tup cs=>isFrL cs
 |_=>true
def isFrL:List SV->Bool
 | []=>true
 |c::cs=>isFr c&&isFrL cs
end
mutual
theorem fr_rep{E E2:En}{U U2:Nat->Bool}{w:World}{f:Nat->Nat}:∀(s:SV)(v:Value),isFr s=true->(∀k∈vW s,U2 (f k)=true/\E2.ρ (f k)=E.ρ k/\E2.sv (f k)=E.sv k)->Rep E U w s v->Rep E2 U2 w (jY f s) v
 |.ptr k o,v,_,h,hr=>by
  obtain⟨h1,h2,_⟩:=h k (by simp[vW])
  unfold jY;unfold Rep at *
  exact⟨h1,by rw[h2];exact hr.2⟩
 |.own k,v,_,h,hr=>by
  obtain⟨h1,_,h2⟩:=h k (by simp[vW])
  unfold jY;unfold Rep at *
  exact⟨h1,by rw[h2];exact hr.2.1,hr.2.2⟩
 |.oel k s i o,v,_,h,hr=>by
  obtain⟨h1,h2,_⟩:=h k (by simp[vW])
  unfold jY;unfold Rep at *
  exact⟨h1,by rw[h2];exact hr.2⟩
 |.agg cs,v,hf,h,hr=>by
  unfold isFr at hf
  unfold jY;unfold Rep at *;obtain⟨vs,e,hl⟩:=hr;exact⟨vs,e,fr_repL cs vs hf (fun k hk=>h k (by simpa[vW] using hk)) hl⟩
 |.tup cs,v,hf,h,hr=>by
  unfold isFr at hf
  unfold jY;unfold Rep at *;obtain⟨vs,e,hl⟩:=hr;exact⟨vs,e,fr_repL cs vs hf (fun k hk=>h k (by simpa[vW] using hk)) hl⟩
 |.any,v,_,_,hr=>by unfold jY;exact xD .any v rfl hr
 |.int k n,v,_,_,hr=>by unfold jY;exact xD (.int k n) v rfl hr
 |.bool b,v,_,_,hr=>by unfold jY;exact xD (.bool b) v rfl hr
 |.str b,v,_,_,hr=>by unfold jY;exact xD (.str b) v rfl hr
 |.nils,v,_,_,hr=>by unfold jY;exact xD .nils v rfl hr
 |.nilp,v,_,_,hr=>by unfold jY;exact xD .nilp v rfl hr
 |.yld _,_,hf,_,_=>by cases hf
 |.mp _,_,hf,_,_=>by cases hf
 |.fn _ _,_,hf,_,_=>by cases hf
 |.big _,_,hf,_,_=>by cases hf
 |.arr _ _ _,_,hf,_,_=>by cases hf
 |.sl _ _,_,hf,_,_=>by cases hf
 |.osl _ _,_,hf,_,_=>by cases hf
 |.nsl _ _ _,_,hf,_,_=>by cases hf
 |.sub _ _ _ _,_,hf,_,_=>by cases hf
 |.bsl _ _,_,hf,_,_=>by cases hf
 |.adr _ _,_,hf,_,_=>by cases hf
theorem fr_repL{E E2:En}{U U2:Nat->Bool}{w:World}{f:Nat->Nat}:∀(s:List SV)(v:List Value),isFrL s=true->(∀k∈wX s,U2 (f k)=true/\E2.ρ (f k)=E.ρ k/\E2.sv (f k)=E.sv k)->zA E U w s v->zA E2 U2 w (kL f s) v
 | [],_,_,_,h=>by unfold kL;unfold zA at *;exact h
 |c::cs,_,hf,hk,h=>by
  unfold isFrL at hf
  rw[Bool.and_eq_true] at hf
  unfold kL
  unfold zA at *
  obtain⟨v,r,e,h1,h2⟩:=h
  exact⟨v,r,e,fr_rep c v hf.1 (fun k hk' =>hk k (by simp[wX,hk'])) h1,fr_repL cs r hf.2 (fun k hk' =>hk k (by simp[wX,hk'])) h2⟩
end
def newFr:Ob->Bool
 |.row _ t _=>t.flat
 |.box cs=>isFlatL cs
 |_=>false
def MOut.fr(o:MOut):Bool:=o.boxes.isEmpty&&o.news.all newFr&&isFr o.res&&(vW o.res).all fun k=>Nat.ble zC k&&Nat.blt (k - zC) o.news.length
structure XC (P:Program) where
 f:FuncId
 L:Lay
 pre:L.den->Option Prop
 out:L.den->MOut
 ent:entB P f=true
 lok:(L.boxes.isEmpty&&L.recs.isEmpty)=true
 ok:∀x,ndP (pre x)->qV P f L x (out x)
def XC.con{P:Program}(c:XC P):Con:=fun args H base=>match xL H c.L.shs args with
 |some x=>bif (c.out x).fr then some {
   need:=c.pre x
   res:=jY (fun k=>base+(k - zC)) (c.out x).res
   upd:=pO base (c.out x).news
   news:=(List.range (c.out x).news.length).map (base + ·) } else none
 |none=>none
theorem rowsL_noneX{H:Hp}:∀{i:Nat}{l:List Sh}{args:List SV}{x y:wM l}{k:Nat},xL H l args=some y->wB i l x k=none
 |_,[],[],_,_,_,_=>rfl
 |_,[],_::_,_,_,_,h=>by simp[xL] at h
 |_,s::_,[],_,_,_,h=>by cases s<;>simp[xL] at h
 |i,s::r,v::q,x,y,k,h=>by
  cases s with
  |adr t=>
   simp only[xL] at h
   split at h<;>try (cases h;done)
   rename_i d y hd hy
   exact rowsL_noneX (i:=i+1) (l:=r) hy
  |val t=>
   simp only[xL] at h
   split at h<;>try (cases h;done)
   rename_i d y hd hy
   exact rowsL_noneX (i:=i+1) (l:=r) hy
  |agg t=>
   simp only[xL] at h
   split at h<;>try (cases h;done)
   rename_i d y hd hy
   exact rowsL_noneX (i:=i+1) (l:=r) hy
  |_=>simp[xL] at h
theorem fZ{H:Hp}:∀{i:Nat}{l:List Sh}{args:List SV}{y:wM l},xL H l args=some y->jC i l=[]
 |_,[],[],_,_=>rfl
 |_,[],_::_,_,h=>by simp[xL] at h
 |_,s::_,[],_,h=>by cases s<;>simp[xL] at h
 |i,s::r,v::q,y,h=>by
  cases s with
  |adr t=>
   simp only[xL] at h
   split at h<;>try (cases h;done)
   rename_i d y hd hy
   exact fZ (i:=i+1) (l:=r) hy
  |val t=>
   simp only[xL] at h
   split at h<;>try (cases h;done)
   rename_i d y hd hy
   exact fZ (i:=i+1) (l:=r) hy
  |agg t=>
   simp only[xL] at h
   split at h<;>try (cases h;done)
   rename_i d y hd hy
   exact fZ (i:=i+1) (l:=r) hy
  |_=>simp[xL] at h
theorem pZ{H:Hp}:∀{i:Nat}{l:List Sh}{args:List SV}{y:wM l},xL H l args=some y->yO l=[]
 |_,[],[],_,_=>rfl
 |_,[],_::_,_,h=>by simp[xL] at h
 |_,s::_,[],_,h=>by cases s<;>simp[xL] at h
 |i,s::r,v::q,y,h=>by
  cases s with
  |adr t=>
   simp only[xL] at h
   split at h<;>try (cases h;done)
   rename_i d y hd hy
   exact pZ (i:=i+1) (l:=r) hy
  |val t=>
   simp only[xL] at h
   split at h<;>try (cases h;done)
   rename_i d y hd hy
   exact pZ (i:=i+1) (l:=r) hy
  |agg t=>
   simp only[xL] at h
   split at h<;>try (cases h;done)
   rename_i d y hd hy
   exact pZ (i:=i+1) (l:=r) hy
  |_=>simp[xL] at h
theorem encL_length:∀(i:Nat)(l:List Sh)(x:wM l),(z_ i l x).length=l.length
 |_,[],_=>rfl
 |i,s::r,x=>by rw[z_,List.length_cons,encL_length (i+1) r x.2,List.length_cons]
theorem XC.conOk{P:Program}(c:XC P):ConOk P c.f c.con:=by
 intro args H base eff he E U w zM hs hr hnews hnd
 simp only[XC.con] at he
 split at he<;>try (cases he;done)
 rename_i x hx
 cases hfo:(c.out x).fr with
 |false=>rw[hfo] at he;cases he
 |true=>
  rw[hfo] at he
  cases he
  obtain⟨E1,hle1,hs1,hfr⟩:=hs.wC (idsX H args) E H
  obtain⟨B,hB,hargs⟩:=decX_ok hs hs1 hle1 c.L.rb c.L.shs args zM x (fun k hk=>by simp[hk]) hx hr
  have hlok:=c.lok
  rw[Bool.and_eq_true,List.isEmpty_iff,List.isEmpty_iff] at hlok
  obtain⟨hbx,hrc⟩:=hlok
  have hheap:(c.L.st noU x).heap=fun _=>none:=by
   funext k
   show (match lookB c.L.kG ((z_ c.L.rb c.L.shs x).drop c.L.slots.length) k with
    |some cs=>some (.box cs)
    |none=>match lookR c.L.recs k with
     |some o=>some o
     |none=>wB c.L.rb c.L.shs x k)=none
   rw[show c.L.kG=[] from by unfold Lay.kG;rw[hbx];rfl,hrc]
   exact rowsL_noneX hx
  have hused:(c.L.st noU x).used=noU:=by
   funext k
   show usd noU (c.L.ids++jC c.L.rb c.L.shs) k=false
   rw[show c.L.ids=[] from by unfold Lay.ids;rw[hbx,hrc,pZ (i:=0) hx];rfl,fZ hx]
   rfl
  have hparams:c.L.params x=z_ c.L.rb c.L.shs x:=by
   unfold Lay.params
   refine List.take_of_length_le ?_
   rw[encL_length]
   show (c.L.slots.map (·.2)++c.L.boxes.flatMap (·.2)).length<=_
   rw[hbx];simp
  have hok:=c.ok x hnd (E0 fun b=>E1.I b\/B b) w zM
  rw[hheap,hused,hparams] at hok
  have hno:∀(F:En) k,¬ jF F (fun _=>none) k:=fun F k hk=>by obtain⟨o,h,_⟩:=hk;cases h
  have hstart:=HSat.start (I:=fun b=>E1.I b\/B b) (w:=w) (fun b hb=>hb.elim (hs1.lt b) (hB b))
  have hM:∀F:En,Mof F (fun _=>none)=fun _=>False:=fun F=>by
   funext b
   exact propext ⟨fun⟨k,hk,_⟩=>(hno F k hk).elim,fun h=>h.elim⟩
  rw[hM] at hok
  refine (hok hstart hargs).mono ?_
  rintro e w' ⟨v,rfl,E',U',hle',h',hI',hrep'⟩
  refine⟨v,rfl,?_⟩
  have hmh:∀k,((c.out x).heap c.L) k=kA zC (c.out x).news k:=fun k=>by
   unfold MOut.heap
   rw[hbx,pZ (i:=0) hx]
   have e1:∀l k,kR [] l k=none:=fun l k=>by cases l<;>rfl
   rw[e1]
   rfl
  unfold MOut.fr at hfo
  simp only[Bool.and_eq_true] at hfo
  obtain⟨⟨⟨_,hnf⟩,hrf⟩,hids⟩:=hfo
  generalize hns:(c.out x).news=ns at *
  have hnewU:∀k,base<=k->k<base+ns.length->U k=false:=fun k h1 h2=>
   hnews k (List.mem_map.2 ⟨k - base,List.mem_range.2 (by omega),by show base+(k - base)=k;omega⟩)
  generalize hnw:(List.range ns.length).map (base + ·)=news
  have hmemn:∀k,k∈news↔base<=k/\k<base+ns.length:=fun k=>by
   rw[<- hnw,List.mem_map]
   constructor
   ·rintro⟨j,hj,rfl⟩
    have:=List.mem_range.1 hj
    exact⟨by omega,by omega⟩
   ·rintro⟨h1,h2⟩
    exact⟨k - base,List.mem_range.2 (by omega),by omega⟩
  have hapU:∀k,apU U news k=true↔(U k=true\/k∈news):=fun k=>by
   unfold apU
   rw[Bool.or_eq_true,show news.any (Nat.beq k)=inL news k from rfl,zO]
  let E2:En:=⟨fun k=>if base<=k/\k<base+ns.length then E'.ρ (zC+(k - base)) else E.ρ k,fun k=>if base<=k/\k<base+ns.length then E'.sv (zC+(k - base)) else E.sv k,E.I,E.rc⟩
  have hold:∀k,U k=true->¬ (base<=k/\k<base+ns.length):=fun k hk h=>by
   rw[hnewU k h.1 h.2] at hk;cases hk
  have hf:=h'.frame
  have hleE:En.Le U (apU U news) E E2 w w':=⟨fun k hk=>(hapU k).2 (.inl hk),fun k hk=>if_neg (hold k hk),fun k hk=>if_neg (hold k hk),fun _ h=>h,fun b hb=>hf.block b (hs.lt b hb) fun x=>x,fun _ _=>rfl⟩
  have τn:∀j,j<ns.length->E2.ρ (base+j)=E'.ρ (zC+j)/\E2.sv (base+j)=E'.sv (zC+j):=fun j hj=>by
   have hyes:base<=base+j/\base+j<base+ns.length:=⟨by omega,by omega⟩
   have e:base+j - base=j:=by omega
   constructor
   ·show (if _ then _ else _)=_
    rw[if_pos hyes,e]
   ·show (if _ then _ else _)=_
    rw[if_pos hyes,e]
  -- what stands under a name
  have hcl:∀k o,apH H (pO base ns) k=some o->(H k=some o/\U k=true/\E2.ρ k=E.ρ k/\E2.sv k=E.sv k)\/(∃j,k=base+j/\j<ns.length/\((c.out x).heap c.L) (zC+j)=some o/\newFr o=true):=by
   intro k o hk
   rcases updNew_get (K:=H) (ns:=ns) (base:=base) k with⟨h3,h4⟩ |⟨j,b',h3,h4,h5⟩
   ·rw[h4] at hk
    have hU:=(hs.ob k o hk).1
    exact .inl ⟨hk,hU,if_neg h3,if_neg h3⟩
   ·rw[h5] at hk
    cases hk
    have hlt:=(List.getElem?_eq_some_iff.1 h4).1
    refine .inr ⟨j,h3,hlt,?_,List.all_eq_true.1 hnf _ (List.mem_of_getElem? h4)⟩
    rw[hmh]
    exact lookNew_of h4
  have hlive:∀k,jF E2 (apH H (pO base ns)) k->(jF E H k/\E2.ρ k=E.ρ k)\/(∃j,k=base+j/\jF E' ((c.out x).heap c.L) (zC+j)/\E2.ρ k=E'.ρ (zC+j)):=by
   rintro k ⟨o,ho,hl⟩
   rcases hcl k o ho with⟨h1,h2,h3,h4⟩ |⟨j,rfl,h1,h2,h3⟩
   ·exact .inl ⟨⟨o,h1,Ob.xI h4 hl⟩,h3⟩
   ·obtain⟨t1,t2⟩:=τn j h1
    refine .inr ⟨j,rfl,⟨o,h2,?_⟩,t1⟩
    cases o with
    |box c=>trivial
    |row e t l=>show E'.sv _≠_;rw[<- t2];exact hl
    |frz t l=>exact hl
    |clip t l=>exact hl
    |rnd p=>trivial
    |mp es=>trivial
    |hole e vs i x=>trivial
    |nw x t l=>exact hl
  have hge:∀j,jF E' ((c.out x).heap c.L) (zC+j)->w.heap.size<=E'.ρ (zC+j):=fun j hj=>by
   rcases h'.mine _ hj with h |h
   ·exact h.elim
   ·exact h
  refine⟨E2,hleE,⟨fun k o hk=>?_,fun j k hj hk he=>?_,fun k hk=>?_,fun b hb=>Nat.lt_of_lt_of_le (hs.lt b hb) hf.size,fun k hk=>?_,?_⟩,vZ.refl (E:=E) (E':=E2) rfl H w,?_⟩
  ·rcases hcl k o hk with⟨h1,h2,h3,h4⟩ |⟨j,rfl,h1,h2,h3⟩
   ·obtain⟨_,hob⟩:=hs.ob k o h1
    exact⟨(hapU k).2 (.inl h2),hob.mono hleE h2 fun hl=>hf.block _ (hob.lt hl) fun x=>x⟩
   ·obtain⟨t1,t2⟩:=τn j h1
    refine⟨(hapU _).2 (.inr ((hmemn _).2 ⟨by omega,by omega⟩)),?_⟩
    have hob:=(h'.ob _ o h2).2
    cases o with
    |box cs=>
     obtain⟨vs,ty,h5,h6⟩:=hob
     exact⟨vs,ty,by rw[t1];exact h5,wU cs vs h3 h6⟩
    |row e t l=>
     obtain⟨xs,h5,h6,h7⟩:=hob
     exact⟨xs,by rw[t2];exact h5,zZ.flat h3 _ _ h6,by rw[t1,t2];exact h7⟩
    |frz t l=>cases h3
    |clip t l=>cases h3
    |rnd p=>cases h3
    |mp es=>cases h3
    |hole e vs i x=>cases h3
    |nw x t l=>cases h3
  ·rcases hlive j hj with⟨h1,e1⟩ |⟨j',rfl,h1,e1⟩<;>rcases hlive k hk with⟨h2,e2⟩ |⟨k',rfl,h2,e2⟩
   ·exact hs.inj j k h1 h2 (by rw[<- e1,<- e2];exact he)
   ·have:=hs.jV h1
    have:=hge k' h2
    rw[e1,e2] at he
    omega
   ·have:=hs.jV h2
    have:=hge j' h1
    rw[e1,e2] at he
    omega
   ·have:=h'.inj _ _ h1 h2 (by rw[<- e1,<- e2];exact he)
    omega
  ·rcases hlive k hk with⟨h1,e1⟩ |⟨k',rfl,h1,e1⟩
   ·rw[e1];exact hs.imm k h1
   ·rw[e1]
    intro hb
    have:=hs.lt _ hb
    have:=hge k' h1
    omega
  ·rcases hlive k hk with⟨h1,e1⟩ |⟨k',rfl,h1,e1⟩
   ·rw[e1];exact hs.mine k h1
   ·rw[e1];exact .inr (hge k' h1)
  ·exact⟨hf.os,hf.tape,hf.output,hf.size,hf.drawn,fun b hb hm=>hf.block b hb fun x=>x⟩
  ·refine fr_rep _ v hrf (fun k hk=>?_) hrep'
   have:=List.all_eq_true.1 hids k hk
   rw[Bool.and_eq_true] at this
   have h5:=Nat.le_of_ble_eq_true this.1
   have h6:k - zC<ns.length:=by simpa[Nat.blt_eq] using this.2
   obtain⟨t1,t2⟩:=τn (k - zC) h6
   rw[show zC+(k - zC)=k from by omega] at t1 t2
   exact⟨(hapU _).2 (.inr ((hmemn _).2 ⟨by omega,by omega⟩)),t1,t2⟩
def XC.gc{P:Program}(c:XC P):GC P:={ f:=c.f,con:=c.con,ent:=c.ent,ok:=c.conOk }
def XC.of{P:Program}{α:Type}(f:FuncId) (L:Lay) (to:L.den->α) (of:α->L.den) (hof:∀x,of (to x)=x) (pre:α->Option Prop) (out:α->MOut) (ent:entB P f=true) (lok:(L.boxes.isEmpty&&L.recs.isEmpty)=true) (ok:∀a,ndP (pre a)->qV P f L (of a) (out a)):XC P where
 f:=f
 L:=L
 pre:=fun x=>pre (to x)
 out:=fun x=>out (to x)
 ent:=ent
 lok:=lok
 ok:=fun x hx=>by have:=ok (to x) hx;rwa [hof] at this
end Go.Sx
namespace Go.Sx
open Go.RowKit
def oelCon(t:Ty)(pre:t.den->Prop)(out:t.den->SV):Con:=fun args H _=>match args with
 | [.oel k s i off]=>match H k with
  |some (.row _ ty l)=>if h:(Nat.beq s t.size=true/\Nat.beq off 0=true)/\Ty.beq ty t=true then
    some { need:=some (i<List.length (show List t.den from (Ty.beq_eq h.2) ▸ l)/\pre (List.getD (show List t.den from (Ty.beq_eq h.2) ▸ l) i t.gB)),res:=out (List.getD (show List t.den from (Ty.beq_eq h.2) ▸ l) i t.gB) } else none
  |_=>none
 |_=>none
theorem oelConOk{P:Program}{f:FuncId}{t:Ty}{pre:t.den->Prop}{out:t.den->SV}(hfl:∀d,isFlat (out d)=true) (hok:∀d,pre d->FnOk P f [.adr t d] (out d)):ConOk P f (oelCon t pre out):=by
 intro args H base eff he E U w zM hs hr _ hnd
 unfold oelCon at he
 split at he<;>try (cases he;done)
 rename_i k s i off
 split at he<;>try (cases he;done)
 rename_i e ty l hk
 split at he<;>try (cases he;done)
 rename_i hb
 obtain⟨⟨b1,b2⟩,b3⟩:=hb
 have hs1:=nbT b1
 have ho:=nbT b2
 have ht:=Ty.beq_eq b3
 subst hs1 ho ht
 cases he
 obtain⟨hi,hp⟩:i<l.length/\pre (l.getD i ty.gB):=hnd
 unfold zA at hr
 obtain⟨v,r,rfl,hv,hr⟩:=hr
 unfold zA at hr
 subst hr
 unfold Rep at hv
 obtain⟨hU,rfl⟩:=hv
 obtain⟨_,xs,hown,hflat,hsv⟩:=hs.ob k _ hk
 obtain⟨E1,hle,hs1,_⟩:=hs.wC [k] E H
 have hk1:(fun j=>if j∈[k] then qU (H j) else H j) k=some (.frz ty l):=by
  simp[hk,qU]
 obtain⟨_,p,cap,hcp,_,hrow⟩:=hs1.ob k _ hk1
 have hesv:E1.sv k=E.sv k:=hle.sv k hU
 have hne:l≠[]:=fun h=>by rw[h] at hi;exact absurd hi (Nat.not_lt_zero _)
 rcases hrow with hrow |⟨b,o,hpb,hIb,hrow⟩
 ·exact absurd hrow hne
 have hbo:b=E.ρ k/\o=0:=by
  rcases hsv with h0 |⟨cap',h0⟩
  ·rw[hesv,h0] at hcp
   injection hcp with h1 h2
   rw[hpb] at h1;cases h1
  ·rw[hesv,h0] at hcp
   injection hcp with h1 h2
   rw[hpb] at h1
   injection h1 with h1
   injection h1 with h1 h2
   exact⟨h1.symm,h2.symm⟩
 obtain⟨rfl,rfl⟩:=hbo
 have hget:l[i]? = some (l.getD i ty.gB):=by
  rw[List.getD_eq_getElem?_getD,List.getElem?_eq_getElem hi];rfl
 obtain⟨cs,hra,hd⟩:=hrow i _ hget
 have harg:zA (E0 E1.I) noU w [.adr ty (l.getD i ty.gB)] [.pointer (some ⟨E.ρ k,i*ty.size+0,none⟩)]:=by
  refine zA.cons ?_ zA.nil
  unfold Rep
  refine⟨E.ρ k,i*ty.size+0,cs,rfl,hIb,?_,hd⟩
  rw[Nat.add_zero]
  rw[Nat.zero_add] at hra
  exact hra
 refine (hok _ hp E1.I w _ hs1.lt harg).mono ?_
 rintro e w' ⟨_,v',rfl,hf,I',hI1,hI2,hI3,hrep⟩
 refine⟨v',rfl,?_⟩
 simp only[vC,apH_nil]
 obtain⟨g1,g2⟩:=hs.still hf (I':=E.I) (fun _ h=>h) (fun b h=>.inl h) (fun b h=>Nat.lt_of_lt_of_le (hs.lt b h) hf.size)
 exact⟨_,g1,g2,fun b hb=>.inl hb,xD _ _ (hfl _) hrep⟩
def oelGC{P:Program}(f:FuncId) (t:Ty) (pre:t.den->Prop) (out:t.den->SV) (ent:entB P f=true) (hfl:∀d,isFlat (out d)=true) (hok:∀d,pre d->FnOk P f [.adr t d] (out d)):GC P :=
 {f:=f,con:=oelCon t pre out,ent:=ent,ok:=oelConOk hfl hok }
end Go.Sx
