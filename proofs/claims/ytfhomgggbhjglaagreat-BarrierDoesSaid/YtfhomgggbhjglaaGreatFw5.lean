/- Part 5 of a verified symbolic walk over the model's code: what it says of a function's code holds of every run of it. No condition. -/
import Derived.Test.YtfhomgggbhjglaaGreatFw4
set_option linter.unusedVariables false
set_option linter.unusedSimpArgs false

namespace Go.Sx
open Go.RowKit
def Ty.plain:Ty->Bool
 |.pair a b=>a.plain&&b.plain
 |.sl e=>e.plain
 |.arr _ _=>false
 |_=>true
def jX:(t:Ty)->t.den->t.den->Prop
 |.pair a b,d,d' =>jX a d.1 d'.1/\jX b d.2 d'.2
 |.sl e,l,l' =>(show List e.den from l').length=(show List e.den from l).length/\∀(i:Nat)(x x' : e.den),(show List e.den from l)[i]? = some x->(show List e.den from l')[i]? = some x'->jX e x x'
 |.int _,_,_=>True
 |.bool,d,d' =>d'=d
 |.str,d,d' =>d'=d
 |.unit,_,_=>True
 |.arr _ _,d,d' =>d'=d
theorem jX.refl:∀(t:Ty)(d:t.den),jX t d d
 |.pair a b,d=>⟨jX.refl a d.1,jX.refl b d.2⟩
 |.sl e,l=>⟨rfl,fun i x x' h h' =>by
  have:x=x':=Option.some.inj (h.symm.trans h')
  subst this
  exact jX.refl e x⟩
 |.int _,_=>trivial
 |.bool,_=>rfl
 |.str,_=>rfl
 |.unit,_=>trivial
 |.arr _ _,_=>rfl
theorem jX.trans:∀{t:Ty}{a b c:t.den},jX t a b->jX t b c->jX t a c
 |.pair x y,_,_,_,h,k=>⟨jX.trans h.1 k.1,jX.trans h.2 k.2⟩
 |.sl e,a,b,c,h,k=>⟨k.1.trans h.1,fun i x x' hx hx' =>by
  have hi:i<(show List e.den from b).length:=by
   rw[h.1];exact (List.getElem?_eq_some_iff.1 hx).1
  obtain⟨y,hy⟩:∃y,(show List e.den from b)[i]? = some y:=⟨_,List.getElem?_eq_getElem hi⟩
  exact jX.trans (h.2 i x y hx hy) (k.2 i y x' hy hx')⟩
 |.int _,_,_,_,_,_=>trivial
 |.bool,_,_,_,h,k=>Eq.trans k h
 |.str,_,_,_,h,k=>Eq.trans k h
 |.unit,_,_,_,_,_=>trivial
 |.arr _ _,_,_,_,h,k=>Eq.trans k h
def simV(v v' : Value):Prop:=v'=v\/∃k n n',v = .int k n/\v' = .int k n'
theorem simV.int{k:IntKind}{n:Int}{v' : Value}(h:simV (.int k n) v'):∃n',v' = .int k n':=by
 rcases h with rfl |⟨k',a,b,h1,rfl⟩
 ·exact⟨n,rfl⟩
 ·cases h1;exact⟨b,rfl⟩
theorem simV.same{v v' : Value}(h:simV v v') (hv:∀k n,v ≠ .int k n):v'=v:=by
 rcases h with h |⟨k,a,b,h1,_⟩
 ·exact h
 ·exact absurd h1 (hv k a)
structure SimW (I:Nat->Prop) (w w' : World):Prop where
 cell:∀b,I b->∀o v,w.cell? ⟨b,o,none⟩=some v->∃v',w'.cell? ⟨b,o,none⟩=some v'/\simV v v'
 frozen:∀b,I b->∀o,w.frozen? ⟨b,o,none⟩=false->w'.frozen? ⟨b,o,none⟩=false
theorem list_pick{α β:Type}{R:Nat->α->β->Prop}:∀(l:List α)(o:Nat),(∀i x,l[i]? = some x->∃d,R (o+i) x d)->∃ds:List β,ds.length=l.length/\∀i x d,l[i]? = some x->ds[i]? = some d->R (o+i) x d:=by
 intro l o h
 obtain⟨ds,h1,h2⟩:=list_choose l o h
 refine⟨ds,h1,fun i x d hx hd=>?_⟩
 obtain⟨x',hx',hR⟩:=h2 i d hd
 have:x'=x:=Option.some.inj (hx'.symm.trans hx)
 subst this
 exact hR
theorem gF.sim{I:Nat->Prop}{w w' : World}(hw:SimW I w w') {b o:Nat}(hb:I b) {cs:List Value}(h:gF w b o cs):∃cs' : List Value,cs'.length=cs.length/\(∀(j:Nat)(v v' : Value),cs[j]? = some v->cs'[j]? = some v'->simV v v')/\gF w' b o cs':=by
 obtain⟨cs',h1,h2⟩:=list_pick (R:=fun j v v' =>simV v v'/\w'.cell? ⟨b,o+j,none⟩=some v') cs 0 fun j v hv=>by
  obtain⟨v',a1,a2⟩:=hw.cell b hb _ v (h j v hv).1
  exact⟨v',a2,by rw[Nat.zero_add];exact a1⟩
 refine⟨cs',h1,fun j v v' hv hv' =>(h2 j v v' hv hv').1,fun j v' hv' =>?_⟩
 have hj:j<cs.length:=by rw[<- h1];exact (List.getElem?_eq_some_iff.1 hv').1
 obtain⟨v,hv⟩:∃v,cs[j]? = some v:=⟨_,List.getElem?_eq_getElem hj⟩
 have:=(h2 j v v' hv hv').2
 rw[Nat.zero_add] at this
 exact⟨this,hw.frozen b hb _ (h j v hv).2⟩
theorem zG.sim{I:Nat->Prop}{w w' : World}(hw:SimW I w w'):∀(t:Ty)(d:t.den)(vs vs' : List Value),t.plain=true->zG I w t d vs->vs'.length=vs.length->(∀(j:Nat)(v v' : Value),vs[j]? = some v->vs'[j]? = some v'->simV v v')->∃d',jX t d d'/\zG I w' t d' vs'
 |.int k,n,vs,vs',_,h,hl,hs=>by
  have h:vs=[.int k n]:=h
  subst h
  match vs',hl with
  | [v'],_=>
   obtain⟨n',rfl⟩:=(hs 0 _ v' rfl rfl).int
   exact⟨n',trivial,rfl⟩
 |.bool,n,vs,vs',_,h,hl,hs=>by
  have h:vs=[.bool n]:=h
  subst h
  match vs',hl with
  | [v'],_=>exact⟨n,rfl,by rw[(hs 0 _ v' rfl rfl).same fun _ _ h=>by cases h];rfl⟩
 |.str,n,vs,vs',_,h,hl,hs=>by
  have h:vs=[.string n]:=h
  subst h
  match vs',hl with
  | [v'],_=>exact⟨n,rfl,by rw[(hs 0 _ v' rfl rfl).same fun _ _ h=>by cases h];rfl⟩
 |.unit,n,vs,vs',_,h,hl,_=>by
  have h:vs=[]:=h
  subst h
  exact⟨(),trivial,List.eq_nil_of_length_eq_zero hl⟩
 |.pair a b,d,vs,vs',hp,h,hl,hs=>by
  simp only[Ty.plain,Bool.and_eq_true] at hp
  obtain⟨x,y,rfl,h1,h2⟩:=h
  rw[List.length_append] at hl
  obtain⟨d1,s1,r1⟩:=zG.sim hw a d.1 x (vs'.take x.length) hp.1 h1 (by rw[List.length_take];omega) fun j v v' hv hv' =>by
   have hj:=(List.getElem?_eq_some_iff.1 hv).1
   rw[List.getElem?_take,if_pos hj] at hv'
   exact hs j v v' (by rw[List.getElem?_append_left hj];exact hv) hv'
  obtain⟨d2,s2,r2⟩:=zG.sim hw b d.2 y (vs'.drop x.length) hp.2 h2 (by rw[List.length_drop];omega) fun j v v' hv hv' =>by
   rw[List.getElem?_drop] at hv'
   exact hs (x.length+j) v v' (by rw[List.getElem?_append_right (by omega),Nat.add_sub_cancel_left];exact hv) hv'
  exact⟨(d1,d2),⟨s1,s2⟩,_,_,(List.take_append_drop _ _).symm,r1,r2⟩
 |.sl e,l,vs,vs',hp,h,hl,hs=>by
  obtain⟨v,rfl,p,cap,rfl,hc,h⟩:=h
  match vs',hl with
  | [v'],_=>
   have ev:=(hs 0 _ v' rfl rfl).same fun _ _ h=>by cases h
   subst ev
   rcases h with h |⟨b,o,hpb,hb,h⟩
   ·exact⟨l,jX.refl (.sl e) l,_,rfl,p,cap,rfl,hc,.inl h⟩
   ·obtain⟨l',h1,h2⟩:=list_pick (R:=fun i (x x' : e.den)=>jX e x x'/\∃cs,gF w' b (o+i*e.size) cs/\zG I w' e x' cs) (show List e.den from l) 0 fun i x hx=>by
     obtain⟨cs,c1,c2⟩:=h i x hx
     obtain⟨cs',e1,e2,e3⟩:=c1.sim hw hb
     obtain⟨x',g1,g2⟩:=zG.sim hw e x cs cs' hp c2 e1 e2
     exact⟨x',g1,cs',by rw[Nat.zero_add];exact e3,g2⟩
    have h1' : l'.length=(show List e.den from l).length:=h1
    refine⟨l',⟨h1,fun i x x' hx hx' =>(h2 i x x' hx hx').1⟩,_,rfl,p,cap,?_,?_,.inr ⟨b,o,hpb,hb,fun i x' hx' =>?_⟩⟩
    ·rw[h1']
    ·rw[h1'];exact hc
    ·have hi:i<(show List e.den from l).length:=by rw[<- h1'];exact (List.getElem?_eq_some_iff.1 hx').1
     obtain⟨x,hx⟩:∃x,(show List e.den from l)[i]? = some x:=⟨_,List.getElem?_eq_getElem hi⟩
     have:=(h2 i x x' hx hx').2
     rwa [Nat.zero_add] at this
 |.arr _ _,_,_,_,hp,_,_,_=>by cases hp
theorem simW_set{w:World}{g o:Nat}{cur:Array Value}{ty:TypeId}{mk:Nat × Nat}{k:IntKind}{n n' : Int}(hg:w.heap[g]? = some (.cells cur ty mk)) (ho:cur[o]? = some (.int k n)) (I:Nat->Prop) :
  SimW I w (w.setRow g (cur.setIfInBounds o (.int k n'))):=by
 have hother:∀b,b≠g->(w.setRow g (cur.setIfInBounds o (.int k n'))).heap[b]? = w.heap[b]?:=fun b hb=>setRow_other w g b _ hb
 have hself:=setRow_heap w g cur (cur.setIfInBounds o (.int k n')) ty mk hg
 constructor
 ·intro b _ x v hv
  by_cases hb:b=g
  ·subst hb
   simp only[World.cell?,hg,Option.isSome_none,Bool.false_eq_true,if_false] at hv
   simp only[World.cell?,hself,Option.isSome_none,Bool.false_eq_true,if_false]
   by_cases hx:x=o
   ·subst hx
    rw[ho] at hv
    cases hv
    have hlt:=(Array.getElem?_eq_some_iff.1 ho).1
    exact⟨.int k n',by simp[hlt],.inr ⟨k,n,n',rfl,rfl⟩⟩
   ·exact⟨v,by rw[Array.getElem?_setIfInBounds_ne (Ne.symm hx)];exact hv,.inl rfl⟩
  ·rw[cell_of_heap (hother b hb)]
   exact⟨v,hv,.inl rfl⟩
 ·intro b _ x hx
  by_cases hb:b=g
  ·subst hb
   simp only[World.frozen?,hg] at hx
   simp only[World.frozen?,hself]
   exact hx
  ·rw[frozen_of_heap (hother b hb)]
   exact hx
theorem cell_some{w:World}{b o:Nat}{v:Value}(h:w.cell? ⟨b,o,none⟩=some v):∃cur ty mk,w.heap[b]? = some (.cells cur ty mk)/\cur[o]? = some v:=by
 unfold World.cell? at h
 split at h
 ·rename_i c t fr hb
  exact⟨c,t,fr,hb,by simpa using h⟩
 ·cases h
theorem store_num{P:Program}{o:Oper}{t:TypeId}{x y:Operand}{ρv:Operand->Value}{w:World}{E:En}{U:Nat->Bool}{k:IntKind}{n n' : Int}(ho:o.op = .store t x y) (ht:xT P t=some 1)
  (hx:Rep E U w (.adr (.int k) n) (ρv x)) (hy:Rep E U w (.int k n') (ρv y)) :
  ∃g off cur ty mk,E.I g/\w.heap[g]? = some (.cells cur ty mk)/\cur[off]? = some (.int k n)/\(execOp ρv o).run P w = .ok .skip (w.setRow g (cur.setIfInBounds off (.int k n'))):=by
 unfold Rep at hx hy
 obtain⟨g,off,cs,hp,hI,hrow,hd⟩:=hx
 have hd:cs=[.int k n]:=hd
 subst hd
 obtain⟨h1,h2⟩:=hrow 0 _ rfl
 rw[Nat.add_zero] at h1 h2
 obtain⟨cur,ty,mk,hg,hc⟩:=cell_some h1
 refine⟨g,off,cur,ty,mk,hI,hg,hc,?_⟩
 have hst:(storeVar t ⟨g,off,none⟩ (.int k n')).run P w = .ok () (w.setRow g (cur.setIfInBounds off (.int k n'))):=by
  have hone:(Value.int k n').cells.toList=[.int k n']:=rfl
  have h3:(store ((⟨g,off,none⟩:Addr).add 0) (.int k n')).run P w = .ok () (w.setRow g (cur.setIfInBounds off (.int k n'))):=by
   rw[show (⟨g,off,none⟩:Addr).add 0=⟨g,off,none⟩ by rw[y_,Nat.add_zero],run_store P w _ _ _ (by simp[Value.oneCell']),h1]
   simp[h2,setCell_eq_setRow w g off cur ty mk _ hg]
  have h4:(Value.int k n').cells.size=1:=rfl
  simp[storeVar,vE ht,h4,hone,storeCells,h3]
 unfold execOp
 simp only[ho,hp,hy]
 simp[Instr.storeAt,Instr.sureAddr,hst]
end Go.Sx
namespace Go.Sx
open Go.RowKit
theorem kS{P:Program}{cx:List (GC P)}{B:Bs}{ops:Array Oper}{r0:Option Nat}{Q:Exit->Act->World->Prop}{l:List Oper}{S S' : St}{r:List Rec}{rest:List Nat}(h:Lex cx B.n ops l S r S') :
  ∀(s:Nat),(∀j o,l[j]? = some o->ops[s+j]? = some o)->∀(a:Act)(w:World),Sat B S a w->(∀a w,Sat B S' a w->wpOpsIn (FR r0) 0 P ops Q rest a w)->wpOpsIn (FR r0) 0 P ops Q (List.range' s l.length++rest) a w:=by
 induction h with
 |nil S=>intro s _ a w hs hq;exact hq a w hs
 | @ran o l S S' eff ids r cx' hw hst hn _ ih=>
  intro s hl a w hs hq
  have h0:ops[s]? = some o:=by simpa using hl 0 o rfl
  obtain⟨E,hsE⟩:=hs
  simp only[List.length_cons,List.range'_succ,List.cons_append,wpOpsIn,h0]
  rw[wY hsE hw,if_pos rfl]
  have hd:∀c,o.op ≠ .defer c:=by
   unfold wW at hst
   simp only at hst
   split at hst<;>try (cases hst;done)
   rename_i hsem
   exact sem_defer hsem
  refine pN hd ((step_ok hsE hst hn).mono fun v w' h' =>?_)
  exact ih (s+1) (fun j o' ho' =>by have:=hl (j+1) o' (by simpa using ho');simpa[Nat.add_assoc,Nat.add_comm 1 j] using this) _ _ h' hq
 | @skip o l S S' r hw _ ih=>
  intro s hl a w hs hq
  have h0:ops[s]? = some o:=by simpa using hl 0 o rfl
  obtain⟨E,hsE⟩:=hs
  simp only[List.length_cons,List.range'_succ,List.cons_append,wpOpsIn,h0]
  rw[wY hsE hw]
  simp only[Bool.false_eq_true,if_false]
  refine⟨fun f hf=>trivial,?_⟩
  exact ih (s+1) (fun j o' ho' =>by have:=hl (j+1) o' (by simpa using ho');simpa[Nat.add_assoc,Nat.add_comm 1 j] using this) _ _ (skip_ok ⟨E,hsE⟩ _) hq
def cut1:Nat->Code->Code
 |n+1,.seq a b=>.seq a (cut1 n b)
 |_,_=>.skip
def yZ:Nat->Code->Code
 |n+1,.seq _ b=>yZ n b
 |_,c=>c
theorem execCut{β:Type}{P:Program}(hm:P.follows .mixedOrders=true) {cx:List (GC P)}{lp:Nat->Option jS}{ys:List YH}{r0:Option Nat}{u0:Nat->Bool}{B:Bs}(hu:∀k,B.U0 k=true->u0 k=true) (hy:∀h∈ys,YHOk P h B.E0 B.U0 B.w0) {Q:β->Prop} :
  ∀(n:Nat)(c:Code)(cur:Nat)(S:St)(K:Kn)(k:Exit->St->Kn->Tree β)(Q' : Exit->Act->World->Prop),wO P ys B.n r0 u0 lp cur (cut1 n c)->kC B.n S K->(jR cx lp ys B.n cur (cut1 n c) S K k).holds Q ->
  (∀e S' K' a w,kC B.n S' K'->Sat B S' a w->(k e S' K').holds Q->Exit.then ((yZ n c).wpIn (FR r0) 0 P Q') Q' e a w)->∀a w,Sat B S a w->c.wpIn (FR r0) 0 P Q' a w:=by
 intro n
 induction n with
 |zero=>
  intro c cur S K k Q' _ hK h hq a w hs
  have h' : (k .normal S K).holds Q:=by
   cases c<;>exact h
  have:=hq .normal S K a w hK hs h'
  cases c<;>exact this
 |succ n ih=>
  intro c cur S K k Q' hl hK h hq a w hs
  cases c with
  |seq x y=>
   refine wpIn_seq (jA hm hu hy x cur S K _ _ hl.1 hK h ?_ a w hs)
   intro e S' K' a' w' hK' hs' hk
   cases e with
   |normal=>exact ih y cur S' K' k Q' hl.2 hK' hk hq a' w' hs'
   |exit id=>exact hq _ S' K' a' w' hK' hs' hk
   |goto l=>exact hq _ S' K' a' w' hK' hs' hk
   |ret=>exact hq _ S' K' a' w' hK' hs' hk
   |panic ch=>exact hq _ S' K' a' w' hK' hs' hk
   |outgrown=>exact hq _ S' K' a' w' hK' hs' hk
  |_=>
   have h' : (k .normal S K).holds Q:=h
   exact hq .normal S K a w hK hs h'
def yR:Code->Code
 |.seq a _=>a
 |c=>c
def vJ:Code->Code
 |.seq _ b=>b
 |c=>c
def cIn:Code->Code
 |.block _ b=>b
 |.loop b=>b
 |c=>c
def wZ(ts:List (Nat × SV))(hs:List (Nat × Option Ob))(us:List Nat):St:=⟨fun t=>match ts.find? fun p=>Nat.beq p.1 t with
 |some p=>p.2
 |none=>.any,apH (fun _=>none) hs,apU noU us⟩
def obsS{β:Type}(k:SV->Tree β):SV->Tree β
 |.ptr a b=>k (.ptr a b)
 |.int a b=>k (.int a b)
 |.bool b=>k (.bool b)
 |.own a=>k (.own a)
 |.sl a b=>k (.sl a b)
 |.adr a b=>k (.adr a b)
 |.agg a=>k (.agg a)
 |.tup a=>k (.tup a)
 |.fn a b=>k (.fn a b)
 |.nils=>k .nils
 |.any=>k .any
 |_=>.fail 51
def obsL{β:Type}:List SV->(List SV->Tree β)->Tree β
 | [],k=>k []
 |c::r,k=>obsS (fun s=>obsL r fun q=>k (s::q)) c
def obsH{β:Type}(S:St):List Nat->(List (Option Ob)->Tree β)->Tree β
 | [],k=>k []
 |t::r,k=>match S.heap t with
  |some (.box a)=>obsL a fun a=>obsH S r fun q=>k (some (.box a)::q)
  |some (.row a b c)=>obsH S r fun q=>k (some (.row a b c)::q)
  |some (.frz b c)=>obsH S r fun q=>k (some (.frz b c)::q)
  |some (.hole a b c d)=>obsH S r fun q=>k (some (.hole a b c d)::q)
  |some (.nw a b c)=>obsH S r fun q=>k (some (.nw a b c)::q)
  |none=>obsH S r fun q=>k (none::q)
  |_=>.fail 52
def obsU{β:Type}(S:St):List Nat->(List Bool->Tree β)->Tree β
 | [],k=>k []
 |t::r,k=>match S.used t with
  |true=>obsU S r fun q=>k (true::q)
  |false=>obsU S r fun q=>k (false::q)
def obs(ts ks us:List Nat)(e:Exit)(S:St):Tree (Exit × List SV × List (Option Ob) × List Bool):=obsL (ts.map S.tmps) fun a=>obsH S ks fun b=>obsU S us fun c=>.leaf (e,a,b,c)
def zL(N:Nat)(w:World)(I:Nat->Prop)(l:List Deferred):Prop:=∃ds:List Nat,l=ds.map mark/\ds.Nodup/\∀d∈ds,N<=d/\¬ I d/\w.heap[d]? = some (.deferred (some []))
theorem zL.nil(N:Nat)(w:World)(I:Nat->Prop):zL N w I []:=⟨[],rfl,List.nodup_nil,fun d hd=>by cases hd⟩
theorem zL.step{N:Nat}{B:Bs}{E:En}{S:St}{a:Act}{w:World}(hs:SatE B E S a w) (hN:N<=B.w0.heap.size) (h0:zL N B.w0 B.E0.I B.D) (hM:∀b,B.M b->B.w0.heap[b]? ≠ some (.deferred (some []))):zL N w E.I a.defers:=by
 obtain⟨ds,e1,n1,h1⟩:=h0
 obtain⟨es,e2,n2,h2⟩:=hs.defers
 have old:∀d∈ds,d<B.w0.heap.size:=fun d hd=>(Array.getElem?_eq_some_iff.1 (h1 d hd).2.2).1
 refine⟨es++ds,by rw[e2,e1,List.map_append],List.nodup_append.2 ⟨n2,n1,fun x hx y hy e=>?_⟩,fun d hd=>?_⟩
 ·subst e
  have:=(h2 x hx).2.2
  have:=old x hy
  omega
 ·rcases List.mem_append.1 hd with hd |hd
  ·obtain⟨a1,a2,a3⟩:=h2 d hd
   exact⟨Nat.le_trans hN a3,a1,a2⟩
  ·obtain⟨a0,a1,a2⟩:=h1 d hd
   have nM:¬ B.M d:=fun h=>hM d h a2
   refine⟨a0,fun hI=>?_,by rw[hs.heap.frame.block d (old d hd) nM];exact a2⟩
   rcases hs.fresh d hI with h |h |h
   ·exact a1 h
   ·exact nM h
   ·have:=old d hd;omega
theorem zL.fM{N:Nat}{w w' : World}{I I' : Nat->Prop}{l:List Deferred}(h:zL N w I l) (hw:∀b:Nat,w.heap[b]? = some (.deferred (some []))->w'.heap[b]? = w.heap[b]?) (hI:∀b:Nat,w.heap[b]? = some (.deferred (some []))->I' b->I b):zL N w' I' l:=by
 obtain⟨ds,e,n,h⟩:=h
 refine⟨ds,e,n,fun d hd=>?_⟩
 obtain⟨a0,a1,a2⟩:=h d hd
 exact⟨a0,fun h=>a1 (hI d a2 h),by rw[hw d a2];exact a2⟩
def bare(w:World)(U:Nat->Bool)(n:Nat)(D:List Deferred):Bs:=⟨{ w with heap:=#[] },fun _=>True,E0 fun _=>False,noU,n,D⟩
theorem SatE.bare{B:Bs}{E:En}{S:St}{a:Act}{w:World}(h:SatE B E S a w):SatE (Go.Sx.bare w S.used B.n a.defers) E S a w:=by
 refine⟨h.size,wN.refl _ _ _ _,h.tmps,⟨h.heap.ob,h.heap.inj,h.heap.imm,h.heap.lt,fun k _=>.inl trivial,⟨rfl,rfl,rfl,Nat.zero_le _,Nat.le_refl _,fun b hb=>absurd hb (Nat.not_lt_zero _)⟩⟩,⟨fun k (hk:noU k=true)=>(nomatch hk),fun k (hk:noU k=true)=>(nomatch hk),fun k (hk:noU k=true)=>(nomatch hk),fun b (hb:False)=>hb.elim,fun b (hb:False)=>hb.elim,fun k (hk:noU k=true)=>(nomatch hk)⟩,fun b _=>.inr (.inl trivial)⟩
theorem leaves_of{P:Program}{fn:Func}{B:Bs}{E:En}{S:St}{a:Act}{w:World}{ss:List SV}{N:Nat}{R:Ending->World->Prop}(hs:SatE B E S a w) (hm:zL N w E.I a.defers) (hr:zAd P B.n S fn.results.toList=some ss)
  (h:∀v w',w'.os=w.os->w'.tape=w.tape->w'.output=w.output->w'.drawn=w.drawn->w'.heap.size=w.heap.size->(∀b,(N<=b->w.heap[b]? ≠ some (.deferred (some [])))->w'.heap[b]? = w.heap[b]?) ->
   HSat { w with heap:=#[] } (fun _=>True) E S.used S.heap w'->Rep E S.used w' (qP ss) v->R (.returned v) w') :
  LeavesInM (FR none) 0 P fn a.tmps R a.defers .returning w:=by
 obtain⟨ds,hds,hnd,hd⟩:=hm
 have hb:=hs.bare
 have hsh:=SatE.shut (B:=Go.Sx.bare w S.used B.n a.defers) ds hnd w hb (fun d hd' =>⟨(hd d hd').2.1,(hd d hd').2.2,Nat.zero_le _⟩)
 rw[hds]
 refine xJ ds hnd w (fun d hm=>(hd d hm).2.2) ?_
 obtain⟨v,hrun,hrep⟩:=kK (fn:=fn) hsh hr
 have key:∀(ds:List Nat)(w:World),(ds.foldl (fun w d=>w.putObj d (.deferred none)) w).os=w.os/\(ds.foldl (fun w d=>w.putObj d (.deferred none)) w).tape=w.tape/\(ds.foldl (fun w d=>w.putObj d (.deferred none)) w).output=w.output/\(ds.foldl (fun w d=>w.putObj d (.deferred none)) w).drawn=w.drawn/\(ds.foldl (fun w d=>w.putObj d (.deferred none)) w).heap.size=w.heap.size/\∀b,b ∉ ds->(ds.foldl (fun w d=>w.putObj d (.deferred none)) w).heap[b]? = w.heap[b]?:=by
  intro ds
  induction ds with
  |nil=>intro w;exact⟨rfl,rfl,rfl,rfl,rfl,fun _ _=>rfl⟩
  |cons d ds ih=>
   intro w
   obtain⟨h1,h2,h3,h4,h5,h6⟩:=ih (w.putObj d (.deferred none))
   refine⟨h1,h2,h3,h4,by rw[List.foldl_cons,h5,World.putObj_size],fun b hb=>?_⟩
   rw[List.foldl_cons,h6 b (fun h=>hb (List.mem_cons_of_mem _ h)),World.putObj_heap_other (fun e=>hb (by rw[e];exact List.mem_cons_self))]
 obtain⟨h1,h2,h3,h4,h5,h6⟩:=key ds w
 refine⟨v,hrun,h v _ h1 h2 h3 h4 h5 (fun b hb=>h6 b fun hin=>hb (hd b hin).1 (hd b hin).2.2) hsh.heap hrep⟩
end Go.Sx
namespace Go.Sx
open Go.RowKit
theorem obsS_holds{β:Type}{Q:β->Prop}{k:SV->Tree β}:∀(s:SV),(obsS k s).holds Q->(k s).holds Q:=by
 intro s h
 cases s<;>first |exact h |exact h.elim
theorem kP{β:Type}{Q:β->Prop}:∀(l:List SV)(k:List SV->Tree β),(obsL l k).holds Q->(k l).holds Q
 | [],_,h=>h
 |c::r,k,h=>kP r (fun q=>k (c::q)) (obsS_holds (k:=fun s=>obsL r fun q=>k (s::q)) c h)
theorem wL{β:Type}{Q:β->Prop}{S:St}:∀(l:List Nat)(k:List (Option Ob)->Tree β),(obsH S l k).holds Q->(k (l.map S.heap)).holds Q
 | [],_,h=>h
 |t::r,k,h=>by
  rw[obsH] at h
  rw[List.map_cons]
  split at h
  ·rename_i a ha
   rw[ha]
   exact wL r _ (kP a (fun a=>obsH S r fun q=>k (some (.box a)::q)) h)
  ·rename_i ha;rw[ha];exact wL r _ h
  ·rename_i ha;rw[ha];exact wL r _ h
  ·rename_i ha;rw[ha];exact wL r _ h
  ·rename_i ha;rw[ha];exact wL r _ h
  ·rename_i ha;rw[ha];exact wL r _ h
  ·exact h.elim
theorem obsU_holds{β:Type}{Q:β->Prop}{S:St}:∀(l:List Nat)(k:List Bool->Tree β),(obsU S l k).holds Q->(k (l.map S.used)).holds Q
 | [],_,h=>h
 |t::r,k,h=>by
  rw[obsU] at h
  rw[List.map_cons]
  split at h
  ·rename_i ha;rw[ha];exact obsU_holds r _ h
  ·rename_i ha;rw[ha];exact obsU_holds r _ h
theorem yV{Q:Exit × List SV × List (Option Ob) × List Bool->Prop}{ts ks us:List Nat}{e:Exit}{S:St}(h:(obs ts ks us e S).holds Q):Q (e,ts.map S.tmps,ks.map S.heap,us.map S.used):=by
 have h1:=kP _ _ h
 have h2:=wL _ _ h1
 exact obsU_holds _ _ h2
theorem stOf_tmps{E:En}{U:Nat->Bool}{w:World}{a:Act}{ts:List (Nat × SV)}{hs:List (Nat × Option Ob)}{us:List Nat}(h:∀p∈ts,Rep E U w p.2 (a.tmps.getD p.1 undef)) (t:Nat):Rep E U w ((wZ ts hs us).tmps t) (a.tmps.getD t undef):=by
 show Rep E U w (match ts.find? fun p=>Nat.beq p.1 t with
  |some p=>p.2
  |none=>.any) _
 split
 ·rename_i p hp
  have h1:=List.find?_some hp
  have h2:=nbT h1
  subst h2
  exact h p (List.mem_of_find?_eq_some hp)
 ·unfold Rep;trivial
theorem xG{ts:List (Nat × SV)}{hs:List (Nat × Option Ob)}{us:List Nat}{k:Nat}{o:Ob}(h:(wZ ts hs us).heap k=some o):(k,some o)∈hs:=by
 have h' : apH (fun _=>none) hs k=some o:=h
 rcases apH_cases hs k with⟨o',hm,ho⟩ |ho
 ·rw[ho] at h'
  subst h'
  exact hm
 ·rw[ho] at h'
  cases h'
theorem yU{ts:List (Nat × SV)}{hs:List (Nat × Option Ob)}{us:List Nat}{k:Nat}:(wZ ts hs us).used k=true↔k∈us:=by
 show apU noU us k=true↔_
 unfold apU noU
 rw[Bool.false_or]
 exact zO
theorem wA{n:Nat}{D:List Deferred}{M:Nat->Prop}{E:En}{a:Act}{w:World}{ts:List (Nat × SV)}{hs:List (Nat × Option Ob)}{us:List Nat}(hn:a.tmps.size=n) (hD:a.defers=D)
  (ht:∀p∈ts,Rep E (apU noU us) w p.2 (a.tmps.getD p.1 undef))
  (ho:∀k o,(k,some o)∈hs->k∈us/\pJ E (apU noU us) w k o)
  (hinj:∀j oj k ok,(j,some oj)∈hs->(k,some ok)∈hs->oj.live E j->ok.live E k->E.ρ j=E.ρ k->j=k)
  (himm:∀k o,(k,some o)∈hs->o.live E k->¬ E.I (E.ρ k)/\M (E.ρ k))
  (hlt:∀b,E.I b->b<w.heap.size):SatE ⟨w,M,E,apU noU us,n,D⟩ E (wZ ts hs us) a w:=by
 refine⟨hn,by rw[hD];exact wN.refl _ _ _ _,fun t _=>stOf_tmps ht t,⟨fun k o h=>?_,?_,?_,hlt,?_,Frm.refl w _⟩,En.Le.refl _ _ _,fun b hb=>.inl hb⟩
 ·obtain⟨h1,h2⟩:=ho k o (xG h)
  exact⟨yU.2 h1,h2⟩
 ·rintro j k ⟨oj,hj,lj⟩ ⟨ok,hk,lk⟩ he
  exact hinj j oj k ok (xG hj) (xG hk) lj lk he
 ·rintro k ⟨o,hk,lk⟩
  exact (himm k o (xG hk) lk).1
 ·rintro k ⟨o,hk,lk⟩
  exact .inl (himm k o (xG hk) lk).2
def obsR{β:Type}(P:Program) (n:Nat) (fn:Func) (S:St) (k:List SV->Tree β):Tree β:=match zAd P n S fn.results.toList with
 |some [.agg cs]=>obsL cs k
 |some [s]=>obsS (fun s=>k [s]) s
 |_=>.fail 53
theorem obsR_holds{β:Type}{Q:β->Prop}{P:Program}{n:Nat}{fn:Func}{S:St}{k:List SV->Tree β}(h:(obsR P n fn S k).holds Q):(∃cs,zAd P n S fn.results.toList=some [.agg cs]/\(k cs).holds Q)\/∃s,zAd P n S fn.results.toList=some [s]/\(k [s]).holds Q:=by
 unfold obsR at h
 split at h
 ·rename_i cs hr
  exact .inl ⟨cs,hr,kP _ _ h⟩
 ·rename_i s _ hr
  exact .inr ⟨s,hr,obsS_holds (k:=fun s=>k [s]) _ h⟩
 ·exact h.elim
theorem start_sat{I:Nat->Prop}{w:World}{args:List SV}{zM:List Value}{n:Nat}(hI:∀b,I b->b<w.heap.size) (hn:args.length<=n) (hr:zA (E0 I) noU w args zM) :
  SatE ⟨w,fun _=>False,E0 I,noU,n,[]⟩ (E0 I) (fW args) { tmps:=zM.toArray++Array.replicate (n - zM.toArray.size) undef,defers:=[] } w:=by
 have hvl:=hr.length
 refine⟨by simp;omega,wN.refl _ _ _ _,fun t ht=>?_,HSat.start hI,En.Le.refl _ _ _,fun b hb=>.inl hb⟩
 show Rep (E0 I) noU w (args.getD t (.tup [])) _
 rcases Nat.lt_or_ge t args.length with h |h
 ·obtain⟨v,hv,hrv⟩:=hr.get (i:=t) (c:=args[t]) (List.getElem?_eq_getElem h)
  rw[show args.getD t (.tup [])=args[t] from by simp[List.getD,List.getElem?_eq_getElem h]]
  have hlt:t<zM.length:=by omega
  have:(zM.toArray++Array.replicate (n - zM.toArray.size) undef).getD t undef=v:=by
   rw[List.getElem?_eq_getElem hlt] at hv
   have h1:(zM.toArray++Array.replicate (n - zM.toArray.size) undef)[t]? = some v:=by
    rw[Array.getElem?_append_left (by simpa using hlt)]
    simpa[List.getElem?_eq_getElem hlt] using hv
   simp only[Array.getD_eq_getD_getElem?,h1,Option.getD_some]
  rw[this];exact hrv
 ·rw[show args.getD t (.tup []) = .tup [] from by simp[List.getD,List.getElem?_eq_none h]]
  have:(zM.toArray++Array.replicate (n - zM.toArray.size) undef).getD t undef=undef:=by
   have h1:(zM.toArray++Array.replicate (n - zM.toArray.size) undef)[t]? = (Array.replicate (n - zM.toArray.size) undef)[t - zM.length]?:=by
    rw[Array.getElem?_append_right (by simpa using by omega)]
    simp
   simp only[Array.getD_eq_getD_getElem?,h1,Array.getElem?_replicate]
   split<;>rfl
  rw[this]
  exact q_ _ _ _
end Go.Sx
namespace Go.Sx
open Go.RowKit
theorem op_hand{P:Program}{r0:Option Nat}{ops:Array Oper}{Q:Exit->Act->World->Prop}{i:Nat}{rest:List Nat}{o:Oper}{a:Act}{w:World}(hi:ops[i]? = some o) (hg:o.guard=none) (hd:∀c,o.op ≠ .defer c)
  (h:yA P (execOp a.eval o) w fun v w' =>wpOpsIn (FR r0) 0 P ops Q rest (a.put o.dst v) w'):wpOpsIn (FR r0) 0 P ops Q (i::rest) a w:=by
 have hw:Region.wanted o (yielded ops a.tmps)=true:=by simp[Region.wanted,hg]
 simp only[wpOpsIn,hi]
 rw[hw,if_pos rfl]
 exact pN hd h
theorem call_hand{P:Program}{r0:Option Nat}{ops:Array Oper}{Q:Exit->Act->World->Prop}{i:Nat}{rest:List Nat}{o:Oper}{a:Act}{w:World}{f:FuncId}{xs:Array Operand}{ts:Array TypeId}(hi:ops[i]? = some o) (hg:o.guard=none)
  (ho:o.op = .call { callee:=.value (.func f),args:=xs,argTypes:=ts }) (hent:entB P f=true) (hb:Nat.ble 4294967296 f=false)
  (h:Calls P f (xs.map a.eval) w fun e w' =>∃v,e = .returned v/\wpOpsIn (FR r0) 0 P ops Q rest (a.put o.dst v) w'):wpOpsIn (FR r0) 0 P ops Q (i::rest) a w:=by
 refine op_hand hi hg (fun c hc=>by rw[ho] at hc;cases hc) ?_
 refine yA.enter (f:=f) (args:=xs.map a.eval) (w':=w) ?_ h
 unfold execOp
 simp only[ho,resolve]
 have e:=entB_run hent (xs.map a.eval) w
 have e0:a.eval (.func f) = .func (.func f) #[] #[]:=by
  simp[Act.eval]
 simp only[e0,Deferred.ofValue,Sem.run_bind,Sem.run_pure,Result.andThen_ok,invoke]
 simpa using e
theorem store_hand{P:Program}{r0:Option Nat}{ops:Array Oper}{Q:Exit->Act->World->Prop}{i:Nat}{rest:List Nat}{o:Oper}{a:Act}{w w' : World}{t:TypeId}{x y:Operand}(hi:ops[i]? = some o) (hg:o.guard=none)
  (ho:o.op = .store t x y) (hr:(execOp a.eval o).run P w = .ok .skip w') (h:wpOpsIn (FR r0) 0 P ops Q rest (a.put o.dst undef) w'):wpOpsIn (FR r0) 0 P ops Q (i::rest) a w :=
 op_hand hi hg (fun c hc=>by rw[ho] at hc;cases hc) (yA.skip hr h)
end Go.Sx
namespace Go.Sx
open Go.RowKit
def okS(us:List Nat):SV->Bool
 |.ptr k _=>inL us k
 |.own k=>inL us k
 |s=>qL s
theorem okS_rep{E E' : En}{U:Nat->Bool}{us:List Nat}{w:World}(hI:E'.I=E.I) (hρ:∀k∈us,E.ρ k=E'.ρ k) (hσ:∀k∈us,E.sv k=E'.sv k) {s:SV}{v:Value}(h:okS us s=true) (hr:Rep E U w s v):Rep E' (apU noU us) w s v:=by
 cases s with
 |ptr k o=>
  have hk:k∈us:=zO.1 h
  unfold Rep at hr ⊢
  exact⟨(yU (ts:=[]) (hs:=[])).2 hk,by rw[<- hρ k hk];exact hr.2⟩
 |own k=>
  have hk:k∈us:=zO.1 h
  unfold Rep at hr ⊢
  exact⟨(yU (ts:=[]) (hs:=[])).2 hk,by rw[<- hσ k hk];exact hr.2⟩
 |_=>exact zI (E:=E) (E':=E') hI _ _ h hr
theorem zL.step2{N:Nat}{K:Nat->Prop}{B:Bs}{E:En}{S:St}{a:Act}{w:World}(hs:SatE B E S a w) (hN:N<=B.w0.heap.size) (h0:zL N B.w0 (fun b=>B.E0.I b\/K b) B.D) (hK:∀b,K b->b<B.w0.heap.size) (hM:∀b,B.M b->B.w0.heap[b]? ≠ some (.deferred (some []))):zL N w (fun b=>E.I b\/K b) a.defers:=by
 obtain⟨ds,e1,n1,h1⟩:=h0
 obtain⟨es,e2,n2,h2⟩:=hs.defers
 have old:∀d∈ds,d<B.w0.heap.size:=fun d hd=>(Array.getElem?_eq_some_iff.1 (h1 d hd).2.2).1
 refine⟨es++ds,by rw[e2,e1,List.map_append],List.nodup_append.2 ⟨n2,n1,fun x hx y hy e=>?_⟩,fun d hd=>?_⟩
 ·subst e
  have:=(h2 x hx).2.2
  have:=old x hy
  omega
 ·rcases List.mem_append.1 hd with hd |hd
  ·obtain⟨a1,a2,a3⟩:=h2 d hd
   exact⟨Nat.le_trans hN a3,fun h=>h.elim a1 fun hk=>absurd (hK d hk) (Nat.not_lt.2 a3),a2⟩
  ·obtain⟨a0,a1,a2⟩:=h1 d hd
   have nM:¬ B.M d:=fun h=>hM d h a2
   refine⟨a0,fun hI=>?_,by rw[hs.heap.frame.block d (old d hd) nM];exact a2⟩
   rcases hI with hI |hI
   ·rcases hs.fresh d hI with h |h |h
    ·exact a1 (.inl h)
    ·exact nM h
    ·have:=old d hd;omega
   ·exact a1 (.inr hI)
structure Scr (E1:En) (us:List Nat) (Nm:Nat) (K:Nat->Prop) (N n:Nat) (w0:World) (ts:List (Nat × SV)) (a:Act) (w:World):Prop where
 st:∃J:Nat->Prop,(∀b,J b->N<=b)/\SatE ⟨w,fun _=>False,{ E1 with I:=J },apU noU us,n,a.defers⟩ { E1 with I:=J } (wZ ts [] us) a w/\zL Nm w (fun b=>J b\/K b) a.defers
 size:N<=w.heap.size
 nm:Nm<=w.heap.size
 kk:∀b,K b->b<w.heap.size
 fr:Frm w0 (fun b=>N<=b) w
theorem Frm.trans'{w0 w1 w2:World}{M M' : Nat->Prop}(h:Frm w0 M w1) (k:Frm w1 M' w2) (hM:∀b,b<w0.heap.size->¬ M b->¬ M' b):Frm w0 M w2 :=
 ⟨k.os.trans h.os,k.tape.trans h.tape,k.output.trans h.output,Nat.le_trans h.size k.size,Nat.le_trans h.drawn k.drawn,fun b hb hm=>(k.block b (Nat.lt_of_lt_of_le hb h.size) (hM b hb hm)).trans (h.block b hb hm)⟩
theorem sat_pick{E1:En}{us:List Nat}{n:Nat}{B:Bs}{E:En}{S:St}{a:Act}{w:World}(hs:SatE B E S a w) (hn:B.n=n) (hρ:∀k∈us,E.ρ k=E1.ρ k) (hσ:∀k∈us,E.sv k=E1.sv k) (ts:List (Nat × SV)) (h:∀p∈ts,p.1<n/\okS us p.2=true/\S.tmps p.1=p.2) :
  SatE ⟨w,fun _=>False,{ E1 with I:=E.I },apU noU us,n,a.defers⟩ { E1 with I:=E.I } (wZ ts [] us) a w :=
 wA (us:=us) (by rw[<- hn];exact hs.size) rfl (fun p hp=>by
  obtain⟨h1,h2,h3⟩:=h p hp
  have:=hs.tmps p.1 (by rw[hn];exact h1)
  rw[h3] at this
  exact okS_rep (E:=E) (E':={ E1 with I:=E.I }) rfl hρ hσ h2 this) (fun k o hk=>by cases hk) (fun _ _ _ _ hj=>by cases hj) (fun _ _ hk=>by cases hk) hs.heap.lt
theorem Scr.code{P:Program}(hm:P.follows .mixedOrders=true) {E1:En}{us:List Nat}{Nm:Nat}{K:Nat->Prop}{N n:Nat}{w0:World}{ts:List (Nat × SV)}{a:Act}{w:World}(h:Scr E1 us Nm K N n w0 ts a w) (cur:Nat) (c:Code) {keys:List Nat}{Q:Exit × List SV × List (Option Ob) × List Bool->Prop}
  (hT:(jR (P:=P) [] (fun _=>none) [] n cur c (wZ ts [] us) (fun _=>none) (fun e S _=>obs keys [] [] e S)).holds Q) :
  c.wpIn (FR none) 0 P (fun e a' w' =>∃svs,Q (e,svs,[],[])/\((keys.all fun k=>Nat.blt k n)=true->svs.all (okS us)=true->Scr E1 us Nm K N n w0 (keys.zip svs) a' w')) a w:=by
 obtain⟨J,hJ,hs,hmk⟩:=h.st
 refine jA hm (r0:=none) (u0:=apU noU us) (cx:=[]) (lp:=fun _=>none) (ys:=[]) (B:=⟨w,fun _=>False,{ E1 with I:=J },apU noU us,n,a.defers⟩) (Q:=Q) (fun k hk=>hk) (fun h hh=>by cases hh) c cur (wZ ts [] us) (fun _=>none) (fun e S _=>obs keys [] [] e S) _ (qS _ _) (jP _ _) hT ?_ a w ⟨{ E1 with I:=J },hs⟩
 intro e S' K' a' w' _ hs' hk
 obtain⟨E',hsE⟩:=hs'
 refine⟨keys.map S'.tmps,yV hk,fun hlt hd=>?_⟩
 have hI' : ∀b,E'.I b->N<=b:=fun b hb=>(hsE.fresh b hb).elim (hJ b) fun hh=>hh.elim (fun x=>x.elim) (Nat.le_trans h.size)
 have hzip:∀p∈keys.zip (keys.map S'.tmps),p.1<n/\okS us p.2=true/\S'.tmps p.1=p.2:=by
  intro p hp
  obtain⟨k,v⟩:=p
  have h1:=List.of_mem_zip hp
  have h3:v=S'.tmps k:=by
   obtain⟨i,hi,he⟩:=List.mem_iff_getElem.1 hp
   rw[List.getElem_zip] at he
   simp only[Prod.mk.injEq,List.getElem_map] at he
   rw[<- he.2,he.1]
  exact⟨by simpa[Nat.blt_eq] using List.all_eq_true.1 hlt k h1.1,List.all_eq_true.1 hd v h1.2,h3.symm⟩
 refine⟨⟨E'.I,hI',sat_pick hsE rfl (fun k hk=>hsE.le.rho k ((yU (ts:=[]) (hs:=[])).2 hk)) (fun k hk=>hsE.le.sv k ((yU (ts:=[]) (hs:=[])).2 hk)) _ hzip,zL.step2 hsE h.nm hmk h.kk (fun b hb=>hb.elim)⟩,Nat.le_trans h.size hsE.heap.frame.size,Nat.le_trans h.nm hsE.heap.frame.size,fun b hb=>Nat.lt_of_lt_of_le (h.kk b hb) hsE.heap.frame.size,?_⟩
 exact h.fr.trans' hsE.heap.frame fun _ _ _ x=>x
theorem Scr.write{P:Program}{E1:En}{us:List Nat}{Nm:Nat}{K:Nat->Prop}{N n:Nat}{w0:World}{ts:List (Nat × SV)}{a:Act}{w:World}(h:Scr E1 us Nm K N n w0 ts a w) {id:Nat}{ops:Array Oper}{pre:List Oper}{o:Oper}{t:TypeId}{tx ty:Nat}(hops:ops.toList=pre++[o]) (hg:o.guard=none) (hdst:o.dst=none)
  (ho:o.op = .store t (.tmp tx) (.tmp ty)) (ht:xT P t=some 1) {key:Nat}{keys:List Nat}{T:Ty}{d:T.den}{rs:List (Nat × SV)}{k:IntKind}{m m' : Int}(hT:T.plain=true)
  (hr:rs=keys.zip (rs.map (·.2))) (hrd:rs.all (fun p=>(match p.2 with
   |.int _ _=>true
   |.ptr k _=>inL us k
   |.own k=>inL us k
   |_=>false)&&Nat.blt p.1 n)=true) (hkey:key<n) (hx:tx<n) (hy:ty<n) (hl:keys.length=rs.length)
  (hE:(jQ (P:=P) [] n ops false pre (wZ ts [] us) (fun _=>none) [] (fun S _=>obs (key::tx::ty::keys) [] [] .normal S)).holds fun x=>x=(.normal,.adr T d::.adr (.int k) m::.int k m'::rs.map (·.2),[],[])) :
  (Code.region id ops false).wpIn (FR none) 0 P (fun e a' w' =>e = .normal/\∃d',jX T d d'/\Scr E1 us Nm K N n w0 ((key,.adr T d')::rs) a' w') a w:=by
 obtain⟨J,hJ,hs,hmk⟩:=h.st
 obtain⟨r,S',K',hL,_,_,hk⟩:=yY pre (wZ ts [] us) (fun _=>none) [] (jP _ _) hE
 have hq:=yV hk
 injection hq with _ hq
 injection hq with hq _
 rw[List.map_cons,List.map_cons,List.map_cons] at hq
 injection hq with q1 hq
 injection hq with q2 hq
 injection hq with q3 q4
 refine wpIn_region ?_
 have hsz:ops.size=pre.length+1:=by rw[<- Array.length_toList,hops,List.length_append];rfl
 have hrange:List.range ops.size=List.range' 0 pre.length++[pre.length]:=by
  rw[hsz,List.range_succ,List.range_eq_range']
 rw[hrange]
 refine kS (B:=⟨w,fun _=>False,{ E1 with I:=J },apU noU us,n,a.defers⟩) hL 0 (fun j o' ho' =>?_) a w ⟨{ E1 with I:=J },hs⟩ fun a1 w1 hs1=>?_
 ·rw[Nat.zero_add,<- Array.getElem?_toList,hops,List.getElem?_append_left (List.getElem?_eq_some_iff.1 ho').1]
  exact ho'
 obtain⟨E',hsE⟩:=hs1
 have hI' : ∀b,E'.I b->N<=b:=fun b hb=>(hsE.fresh b hb).elim (hJ b) fun hh=>hh.elim (fun x=>x.elim) (Nat.le_trans h.size)
 have hmk':=zL.step2 hsE h.nm hmk h.kk (fun b hb=>hb.elim)
 have x1:=hsE.tmps key hkey
 have x2:=hsE.eval (.tmp tx)
 have x3:=hsE.eval (.tmp ty)
 have ev:∀z,z<n->S'.eval n (.tmp z)=S'.tmps z:=fun z hz=>by
  show (bif Nat.blt z n then S'.tmps z else .any)=_
  rw[Nat.blt_eq.mpr hz];rfl
 rw[q1] at x1
 rw[show (⟨w,fun _=>False,{ E1 with I:=J },apU noU us,n,a.defers⟩:Bs).n=n from rfl,ev tx hx,q2] at x2
 rw[show (⟨w,fun _=>False,{ E1 with I:=J },apU noU us,n,a.defers⟩:Bs).n=n from rfl,ev ty hy,q3] at x3
 obtain⟨g,off,cur,tyc,mk,gI,gh,gc,grun⟩:=store_num (P:=P) (o:=o) (ρv:=a1.eval) ho ht x2 x3
 have hglt:g<w1.heap.size:=(Array.getElem?_eq_some_iff.1 gh).1
 refine store_hand (by rw[<- Array.getElem?_toList,hops];simp) hg ho grun ?_
 rw[hdst]
 show _/\_
 refine⟨rfl,?_⟩
 let w2:=w1.setRow g (cur.setIfInBounds off (.int k m'))
 have hsim:SimW E'.I w1 w2:=simW_set gh gc _
 unfold Rep at x1
 obtain⟨b,ob,cs,hp,hb,hrow,hdr⟩:=x1
 obtain⟨cs',c1,c2,c3⟩:=hrow.sim hsim hb
 obtain⟨d',sh,hdr'⟩:=zG.sim hsim T d cs cs' hT hdr c1 c2
 have hsz2:w2.heap.size=w1.heap.size:=size_setRow _ _ _
 have hother:∀x,x≠g->w2.heap[x]? = w1.heap[x]?:=fun x hx=>setRow_other w1 g x _ hx
 refine⟨d',sh,⟨E'.I,hI',?_,?_⟩,by rw[hsz2];exact Nat.le_trans h.size hsE.heap.frame.size,by rw[hsz2];exact Nat.le_trans h.nm hsE.heap.frame.size,fun b hb=>by rw[hsz2];exact Nat.lt_of_lt_of_le (h.kk b hb) hsE.heap.frame.size,?_⟩
 ·refine wA (us:=us) hsE.size rfl (fun p hp' =>?_) (fun k o hk=>by cases hk) (fun _ _ _ _ hj=>by cases hj) (fun _ _ hk=>by cases hk) (fun x hx=>by rw[hsz2];exact hsE.heap.lt x hx)
  rcases List.mem_cons.1 hp' with rfl |hp'
  ·show Rep { E1 with I:=E'.I } _ w2 (.adr T d') _
   unfold Rep
   exact⟨b,ob,cs',hp,hb,c3,hdr'⟩
  ·have h1:=List.all_eq_true.1 hrd p hp'
   rw[Bool.and_eq_true] at h1
   have hlt:p.1<n:=Nat.blt_eq.mp h1.2
   have hS:S'.tmps p.1=p.2:=by
    obtain⟨i,hi,he⟩:=List.mem_iff_getElem.1 hp'
    have h3:(keys.map S'.tmps)[i]? = (rs.map (·.2))[i]?:=by rw[q4]
    have hik:i<keys.length:=by omega
    rw[List.getElem?_map,List.getElem?_map,List.getElem?_eq_getElem hik,List.getElem?_eq_getElem hi] at h3
    have h4:S'.tmps keys[i]=rs[i].2:=Option.some.inj h3
    have h5:rs[i]? = (keys.zip (rs.map (·.2)))[i]?:=by rw[<- hr]
    rw[List.getElem?_eq_getElem hi,List.getElem?_eq_getElem (by rw[List.length_zip,List.length_map];omega),List.getElem_zip] at h5
    have h6:=Option.some.inj h5
    have h7:rs[i].1=keys[i]:=by rw[h6]
    rw[<- he,h7,h4]
   have hv:=hsE.tmps p.1 hlt
   rw[hS] at hv
   cases hp2:p.2 with
   |int kk z=>
    rw[hp2] at hv
    unfold Rep at hv ⊢
    exact hv
   |ptr kk z=>
    rw[hp2] at hv h1
    have hk:kk∈us:=zO.1 h1.1
    have hU:=(yU (ts:=[]) (hs:=[])).2 hk
    have er:E'.ρ kk=E1.ρ kk:=hsE.le.rho kk hU
    unfold Rep at hv ⊢
    exact⟨hU,by rw[<- er];exact hv.2⟩
   |own kk=>
    rw[hp2] at hv h1
    have hk:kk∈us:=zO.1 h1.1
    have hU:=(yU (ts:=[]) (hs:=[])).2 hk
    have er:E'.sv kk=E1.sv kk:=hsE.le.sv kk hU
    unfold Rep at hv ⊢
    exact⟨hU,by rw[<- er];exact hv.2⟩
   |_=>rw[hp2] at h1;simp at h1
 ·refine hmk'.fM (fun x hx=>hother x fun e=>?_) (fun x _ hx=>hx)
  rw[e,gh] at hx
  cases hx
 ·refine (h.fr.trans' hsE.heap.frame fun _ _ _ x=>x).trans' (M':=fun b=>b=g) ⟨rfl,rfl,rfl,by rw[hsz2];exact Nat.le_refl _,Nat.le_refl _,fun x _ hx=>hother x hx⟩ fun x _ hx he=>hx ?_
  rw[he];exact hI' g gI
theorem Scr.pick{E1:En}{us:List Nat}{Nm:Nat}{K:Nat->Prop}{N n:Nat}{w0:World}{ts ts' : List (Nat × SV)}{a:Act}{w:World}(h:Scr E1 us Nm K N n w0 ts a w) (hp:∀p∈ts',p.1<n/\okS us p.2=true/\(wZ ts [] us).tmps p.1=p.2):Scr E1 us Nm K N n w0 ts' a w:=by
 obtain⟨J,hJ,hs,hmk⟩:=h.st
 exact⟨⟨J,hJ,sat_pick hs rfl (fun k _=>rfl) (fun k _=>rfl) ts' hp,hmk⟩,h.size,h.nm,h.kk,h.fr⟩
theorem Scr.head{E1:En}{us:List Nat}{Nm:Nat}{K:Nat->Prop}{N n:Nat}{w0:World}{k:Nat}{i:Int}{ts:List (Nat × SV)}{a:Act}{w:World}(h:Scr E1 us Nm K N n w0 ((k,.int .i64 i)::ts) a w) (hk:k<n):a.tmps.getD k undef = .int .i64 i:=by
 obtain⟨J,hJ,hs,hmk⟩:=h.st
 have:=hs.tmps k hk
 have e:(wZ ((k,.int .i64 i)::ts) [] us).tmps k = .int .i64 i:=by
  show (match List.find? (fun p=>Nat.beq p.1 k) ((k,SV.int .i64 i)::ts) with
   |some p=>p.2
   |none=>.any)=_
  rw[List.find?_cons,show Nat.beq (k,SV.int .i64 i).1 k=true from Nat.beq_refl k]
 rw[e] at this
 unfold Rep at this
 exact this
theorem Scr.loop{P:Program}{E1:En}{us:List Nat}{Nm:Nat}{K:Nat->Prop}{N n:Nat}{w0:World}{T:Ty}{id key dk:Nat}{fx:List (Nat × SV)}{body:Code}(hk:key<n) (len:T.den->Int) (hlen:∀d d',jX T d d'->len d'=len d) {d0:T.den}
  (round:∀(d:T.den),jX T d0 d->∀(i:Int)(a:Act)(w:World),0<=i->Scr E1 us Nm K N n w0 ((key,.int .i64 i)::(dk,.adr T d)::fx) a w->body.wpIn (FR none) 0 P (fun e a' w' =>∃d',jX T d d' /\
   ((e = .exit id/\Scr E1 us Nm K N n w0 ((dk,.adr T d')::fx) a' w')\/(e = .normal/\i<len d/\Scr E1 us Nm K N n w0 ((key,.int .i64 (i+1))::(dk,.adr T d')::fx) a' w'))) a w)
  {a:Act}{w:World}(h:Scr E1 us Nm K N n w0 ((key,.int .i64 0)::(dk,.adr T d0)::fx) a w) :
  (Code.block id (.loop body)).wpIn (FR none) 0 P (fun e a' w' =>e = .normal/\∃d',jX T d0 d'/\Scr E1 us Nm K N n w0 ((dk,.adr T d')::fx) a' w') a w:=by
 refine wpIn_block (wpIn_loop (fun a w=>∃i d',0<=i/\jX T d0 d'/\Scr E1 us Nm K N n w0 ((key,.int .i64 i)::(dk,.adr T d')::fx) a w) (fun a _=>(len d0 - (match a.tmps.getD key undef with
  |.int _ n=>n
  |_=>0)).toNat) ⟨0,d0,Int.le_refl _,jX.refl T d0,h⟩ ?_)
 rintro a w ⟨i,d1,hi,hd,hs⟩
 refine wpIn_mono (round d1 hd i a w hi hs) ?_
 rintro e a' w' ⟨d2,hd2,⟨rfl,hs'⟩ |⟨rfl,hlt,hs'⟩⟩
 ·have key:Exit.inBlock id (fun e a' w' =>e=Exit.normal/\∃d',jX T d0 d'/\Scr E1 us Nm K N n w0 ((dk,.adr T d')::fx) a' w') (.exit id) a' w':=by
   simp only[Exit.inBlock,if_true]
   exact⟨trivial,d2,hd.trans hd2,hs'⟩
  exact key
 ·refine⟨⟨i+1,d2,by omega,hd.trans hd2,hs'⟩,?_⟩
  rw[hlen d0 d1 hd] at hlt
  simp only[hs.head hk,hs'.head hk]
  have h1:=Int.toNat_of_nonneg (show 0<=len d0 - i by omega)
  have h2:=Int.toNat_of_nonneg (show 0<=len d0 - (i+1) by omega)
  generalize (len d0 - i).toNat=x at *
  generalize (len d0 - (i+1)).toNat=y at *
  omega
def obsB{β:Type}(P:Program) (n:Nat) (fn:Func) (S:St) (k:Bool->Tree β):Tree β:=match zAd P n S fn.results.toList with
 |some [.bool b]=>k b
 |_=>.fail 54
theorem obsB_holds{β:Type}{Q:β->Prop}{P:Program}{n:Nat}{fn:Func}{S:St}{k:Bool->Tree β}(h:(obsB P n fn S k).holds Q):∃b,zAd P n S fn.results.toList=some [.bool b]/\(k b).holds Q:=by
 unfold obsB at h
 split at h
 ·rename_i b hr
  exact⟨b,hr,h⟩
 ·exact h.elim
end Go.Sx
