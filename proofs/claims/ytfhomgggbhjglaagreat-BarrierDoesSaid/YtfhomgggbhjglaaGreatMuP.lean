/- When the rule ceases to hold: plain laws. -/
import Derived.Test.YtfhomgggbhjglaaGreatMuO
namespace Go.MB
open Go Go.Sx Go.Proofs
set_option linter.unusedVariables false
set_option linter.unusedSimpArgs false
noncomputable section
theorem inF_mono{f g:List Bool}(h:∀i:Nat,f.getD i false=true->g.getD i false=true) {l:List Int}(hl:inF f l=true):inF g l=true:=by
 unfold inF at *
 rw[List.all_eq_true] at *
 exact fun i hi=>h _ (hl i hi)
theorem standF_sub{f g:List Bool}(h:∀i:Nat,f.getD i false=true->g.getD i false=true):∀(l:List (List Int))(i:Int),∀k∈vU f l i,k∈vU g l i
 | [],i,k,hk=>hk
 |x::l,i,k,hk=>by
  rw[vU] at hk ⊢
  by_cases c:inF f x=true
  ·rw[if_pos c] at hk
   rw[if_pos (inF_mono h c)]
   rcases List.mem_cons.1 hk with rfl |hk
   ·exact List.mem_cons_self
   ·exact List.mem_cons_of_mem _ (standF_sub h l _ k hk)
  ·rw[if_neg c] at hk
   have:=standF_sub h l _ k hk
   split
   ·exact List.mem_cons_of_mem _ this
   ·exact this
theorem proofF_mono{h:Hs}{f g:List Bool}(hn:0<=h.2.2) (hfg:∀i:Nat,f.getD i false=true->g.getD i false=true) (hf:(proofF h f).isSome=true):(proofF h g).isSome=true:=by
 unfold proofF at *
 cases e:prf h.2.1 (vU f h.2.1 0) [] h.2.2.toNat with
 |none=>rw[e] at hf;cases hf
 |some x=>
  obtain⟨p,y,ex,s,len⟩:=prf_sound e List.Pairwise.nil
  rw[List.nil_append] at ex
  subst ex
  have ha:x.Pairwise (· < ·):=(standF_asc f h.2.1 0 (by decide)).sublist s
  refine prf_full x (ha.imp fun h=>by omega) (fun a ha=>standF_sub hfg _ _ _ (s.subset ha)) len (fun a ha b hb hab=>?_) (fun a ha=>by cases ha)
  have hs:∀a b,Dj h.2.1 a b->Dj h.2.1 b a:=fun a b e=>by
   unfold Dj at *
   rw[shS_disj] at *
   rw[shS_comm];exact e
  exact pw_all hs p a ha b hb hab
theorem soundF_at(h:Hs)(tick press:Int)(i:Nat):(xO h tick press).getD i false=(match h.1[i]? with |some e=>fI e tick press |none=>false):=by
 unfold xO
 rw[List.getD_eq_getElem?_getD,List.getElem?_map]
 cases h.1[i]?<;>rfl
theorem g_{h:Hs}{t u p q:Int}(hn:0<=h.2.2) (hf:∀e∈h.1,fI e t p=true->fI e u q=true) (hh:zQ h t p=true):zQ h u q=true:=by
 refine proofF_mono hn (fun i hi=>?_) hh
 rw[soundF_at] at hi ⊢
 cases e:h.1[i]? with
 |none=>rw[e] at hi;cases hi
 |some x=>
  rw[e] at hi
  exact hf x (List.mem_of_getElem? e) hi
theorem effS_iff{e:E4}{t p:Int}:fI e t p=true↔e.1=2/\(e.2.2.1<=t/\t<=e.2.2.2)/\e.2.1>=p:=by
 unfold fI
 rw[Bool.and_eq_true,Bool.and_eq_true,decide_eq_true_eq,decide_eq_true_eq,qZ]
theorem holds_some{h:Hs}(k:HOk h) {t p:Int}(hh:zQ h t p=true):∃e∈h.1,fI e t p=true:=by
 unfold zQ proofF at hh
 have nd:=k.nd
 cases e:prf h.2.1 (vU (xO h t p) h.2.1 0) [] h.2.2.toNat with
 |none=>rw[e] at hh;cases hh
 |some x=>
  obtain⟨_,y,ex,s,len⟩:=prf_sound e List.Pairwise.nil
  rw[List.nil_append] at ex
  subst ex
  cases x with
  |nil=>rw[List.length_nil] at len;omega
  |cons a r=>
   have ha:=s.subset (List.mem_cons_self (a:=a) (l:=r))
   have h1:=standF_in (xO h t p) h.2.1 0 (by decide) a ha
   have h2:=(standF_ok (xO h t p) h.2.1 0 (by decide)).2 a ha
   rw[Int.sub_zero] at h1
   have h3:=k.ev _ (jT (d:=([]:List Int)) (show a.toNat<h.2.1.length by omega))
   cases c:h.2.1.getD a.toNat [] with
   |nil=>exact absurd c h3.1
   |cons b q=>
    rw[c] at h1 h3
    have h4:=List.all_eq_true.1 h1 b List.mem_cons_self
    rw[soundF_at] at h4
    cases c2:h.1[b.toNat]? with
    |none=>rw[c2] at h4;cases h4
    |some z=>rw[c2] at h4;exact⟨z,List.mem_of_getElem? c2,h4⟩
def gL(lt:Int->Int->Bool)(x:Int):List Int->List Int
 | []=>[x]
 |p::r=>if lt x p=true then p::gL lt x r else x::p::r
theorem insRv_len(lt:Int->Int->Bool)(x:Int):∀rv:List Int,(gL lt x rv).length=rv.length+1
 | []=>rfl
 |p::r=>by
  rw[gL]
  split
  ·rw[List.length_cons,insRv_len lt x r,List.length_cons]
  ·rfl
theorem insRv_mem(lt:Int->Int->Bool)(x y:Int):∀rv:List Int,y∈gL lt x rv↔y=x\/y∈rv
 | []=>by rw[gL,List.mem_singleton];simp
 |p::r=>by
  rw[gL]
  split
  ·rw[List.mem_cons,insRv_mem lt x y r,List.mem_cons]
   constructor
   ·rintro (h |h |h)
    ·exact .inr (.inl h)
    ·exact .inl h
    ·exact .inr (.inr h)
   ·rintro (h |h |h)
    ·exact .inr (.inl h)
    ·exact .inl h
    ·exact .inr (.inr h)
  ·rw[List.mem_cons]
theorem get_mid(a b:List Int)(x:Int):(a++x::b).getD a.length 0=x:=by
 rw[List.getD_eq_getElem?_getD,List.getElem?_append_right (Nat.le_refl _),Nat.sub_self];rfl
theorem set_mid(a b:List Int)(x v:Int):(a++x::b).set a.length v=a++v::b:=by
 rw[List.set_append_right _ _ (Nat.le_refl _),Nat.sub_self];rfl
theorem insJ_list(lt:Int->Int->Bool):∀(rv:List Int)(x:Int)(post:List Int),insJ lt 0 rv.length (rv.length:Int) (rv.reverse++x::post)=(gL lt x rv).reverse++post
 | [],x,post=>by
  rw[List.length_nil,insJ,gL]
  rfl
 |p::r,x,post=>by
  have hl:r.reverse.length=r.length:=List.length_reverse
  have e0:(p::r).reverse++x::post=r.reverse++p::x::post:=by rw[List.reverse_cons,List.append_assoc];rfl
  have e0' : r.reverse++p::x::post=(r.reverse++[p])++x::post:=by rw[List.append_assoc];rfl
  have hl' : (r.reverse++[p]).length=r.length+1:=by rw[List.length_append,hl];rfl
  have g1:(r.reverse++p::x::post).getD (r.length+1) 0=x:=by rw[e0',<- hl'];exact get_mid _ _ _
  have g2:(r.reverse++p::x::post).getD r.length 0=p:=by rw[<- hl];exact get_mid _ _ _
  have t1:(((p::r).length:Nat):Int).toNat=r.length+1:=by rw[List.length_cons];omega
  have t2:((((p::r).length:Nat):Int) - 1).toNat=r.length:=by rw[List.length_cons];omega
  have t3:(((p::r).length:Nat):Int) - 1=(r.length:Int):=by rw[List.length_cons];omega
  have t4:decide ((((p::r).length:Nat):Int)>0)=true:=decide_eq_true (by rw[List.length_cons];omega)
  rw[e0]
  show insJ lt 0 (r.length+1) _ _=_
  rw[insJ,t1,t2,t4,g1,g2,Bool.true_and,gL]
  by_cases c:lt x p=true
  ·rw[if_pos c,if_pos c,t3]
   have es:swp (r.reverse++p::x::post) (((p::r).length:Nat):Int)=r.reverse++x::p::post:=by
    unfold swp
    rw[t1,t2,g1,g2,e0',<- hl',set_mid,List.append_assoc]
    show (r.reverse++p::p::post).set r.length x=_
    rw[<- hl,set_mid]
   rw[es,insJ_list lt r x (p::post),List.reverse_cons,List.append_assoc]
   rfl
  ·rw[if_neg c,if_neg c,List.reverse_cons,List.reverse_cons,List.append_assoc,List.append_assoc]
   rfl
theorem isO_list(lt:Int->Int->Bool):∀(post rv:List Int),isO lt 0 post.length (rv.length:Int) (rv.reverse++post)=(post.foldl (fun acc x=>gL lt x acc) rv).reverse
 | [],rv=>by rw[List.length_nil,isO,List.append_nil];rfl
 |x::post,rv=>by
  have ih:=isO_list lt post (gL lt x rv)
  rw[insRv_len] at ih
  rw[List.length_cons,isO,show ((rv.length:Int) - 0).toNat=rv.length by omega,insJ_list,show ((rv.length:Int)+1)=((rv.length+1:Nat):Int) by omega,ih]
  rfl
def cmpOk(lt:Int->Int->Bool)(R:Int->Int->Prop)(p x:Int):Prop:=(lt x p=true->R x p)/\(lt x p=false->R p x)
theorem insRv_pw{lt:Int->Int->Bool}{R:Int->Int->Prop}(tr:∀a b c,R a b->R b c->R a c) {x:Int}:∀{rv:List Int},rv.Pairwise (fun a b=>R b a)->(∀p∈rv,cmpOk lt R p x)->(gL lt x rv).Pairwise (fun a b=>R b a)
 | [],_,_=>by rw[gL];exact List.pairwise_singleton _ _
 |p::r,h,hx=>by
  obtain⟨h1,h2⟩:=List.pairwise_cons.1 h
  rw[gL]
  split
  ·rename_i c
   refine List.pairwise_cons.2 ⟨fun y hy=>?_,insRv_pw tr h2 fun q hq=>hx q (List.mem_cons_of_mem _ hq)⟩
   rcases (insRv_mem lt x y r).1 hy with rfl |hy
   ·exact (hx p (by simp)).1 c
   ·exact h1 y hy
  ·rename_i c
   have c':=(hx p (by simp)).2 (by simpa using c)
   refine List.pairwise_cons.2 ⟨fun y hy=>?_,h⟩
   rcases List.mem_cons.1 hy with rfl |hy
   ·exact c'
   ·exact tr _ _ _ (h1 y hy) c'
theorem fold_pw{lt:Int->Int->Bool}{R:Int->Int->Prop}(tr:∀a b c,R a b->R b c->R a c):∀(post rv:List Int),rv.Pairwise (fun a b=>R b a)->(∀x∈post,∀p∈rv,cmpOk lt R p x)->post.Pairwise (cmpOk lt R) ->
  (post.foldl (fun acc x=>gL lt x acc) rv).Pairwise (fun a b=>R b a)/\∀y,y∈post.foldl (fun acc x=>gL lt x acc) rv↔y∈rv\/y∈post
 | [],rv,h,_,_=>⟨h,fun y=>by simp⟩
 |x::post,rv,h,h1,h2=>by
  obtain⟨h3,h4⟩:=List.pairwise_cons.1 h2
  obtain⟨g1,g2⟩:=fold_pw tr post (gL lt x rv) (insRv_pw tr h (h1 x (by simp))) (fun y hy p hp=>by
   rcases (insRv_mem lt x p rv).1 hp with rfl |hp
   ·exact h3 y hy
   ·exact h1 y (List.mem_cons_of_mem _ hy) p hp) h4
  refine⟨g1,fun y=>?_⟩
  rw[List.foldl_cons,g2 y,insRv_mem,List.mem_cons]
  constructor
  ·rintro ((h |h) |h)
   ·exact .inr (.inl h)
   ·exact .inl h
   ·exact .inr (.inr h)
  ·rintro (h |h |h)
   ·exact .inl (.inr h)
   ·exact .inl (.inl h)
   ·exact .inr h
theorem isort_ok{lt:Int->Int->Bool}{R:Int->Int->Prop}(tr:∀a b c,R a b->R b c->R a c) {l:List Int}(hP:l.Pairwise (cmpOk lt R)) :
  (isO lt 0 ((l.length:Int) - 1).toNat 1 l).Pairwise R/\∀y,y∈isO lt 0 ((l.length:Int) - 1).toNat 1 l↔y∈l:=by
 cases l with
 |nil=>exact⟨List.Pairwise.nil,fun y=>Iff.rfl⟩
 |cons x l=>
  have e:=isO_list lt l [x]
  rw[List.length_cons,show (((l.length+1:Nat):Int) - 1).toNat=l.length by omega]
  have e' : isO lt 0 l.length 1 (x::l)=(l.foldl (fun acc x=>gL lt x acc) [x]).reverse:=e
  rw[e']
  obtain⟨h3,h4⟩:=List.pairwise_cons.1 hP
  obtain⟨g1,g2⟩:=fold_pw tr l [x] (List.pairwise_singleton _ _) (fun y hy p hp=>by rw[List.mem_singleton.1 hp];exact h3 y hy) h4
  refine⟨List.pairwise_reverse.2 g1,fun y=>?_⟩
  rw[List.mem_reverse,g2 y,List.mem_singleton,List.mem_cons]
theorem pw_triv{R:Int->Int->Prop}(h:∀a b,R a b):∀l:List Int,l.Pairwise R
 | []=>List.Pairwise.nil
 |x::l=>List.Pairwise.cons (fun y _=>h x y) (pw_triv h l)
theorem sort_ok(l:List Int):(isO ltI 0 ((l.length:Int) - 1).toNat 1 l).Pairwise (· <= ·)/\∀y,y∈isO ltI 0 ((l.length:Int) - 1).toNat 1 l↔y∈l:=by
 refine isort_ok (R:=(· <= ·)) (fun a b c h1 h2=>by omega) (pw_triv (fun p x=>?_) l)
 unfold cmpOk ltI
 refine⟨fun c=>?_,fun c=>?_⟩
 ·have:=dcT c;omega
 ·have:=dcF c;omega
theorem tkA_mem{fr to y:Int}:∀{l:List E4},y∈tkA fr to l↔∃e∈l,y=e.2.2.2+1/\fr<=y/\y<=to
 | []=>by rw[tkA];simp
 |e::r=>by
  rw[tkA]
  split
  ·rename_i c
   rw[qZ] at c
   rw[List.mem_cons,tkA_mem]
   constructor
   ·rintro (h |⟨x,hx,h1,h2⟩)
    ·exact⟨e,List.mem_cons_self,h,by omega,by omega⟩
    ·exact⟨x,List.mem_cons_of_mem _ hx,h1,h2⟩
   ·rintro⟨x,hx,h1,h2⟩
    rcases List.mem_cons.1 hx with rfl |hx
    ·exact .inl h1
    ·exact .inr ⟨x,hx,h1,h2⟩
  ·rename_i c
   rw[tkA_mem]
   constructor
   ·rintro⟨x,hx,h1,h2⟩
    exact⟨x,List.mem_cons_of_mem _ hx,h1,h2⟩
   ·rintro⟨x,hx,h1,h2⟩
    rcases List.mem_cons.1 hx with rfl |hx
    ·exact absurd (qZ.2 ⟨by omega,by omega⟩) c
    ·exact⟨x,hx,h1,h2⟩
theorem tks_ok(h:Hs)(fr to:Int):(zAb h fr to).Pairwise (· <= ·)/\∀y,y∈zAb h fr to↔y=fr\/∃e∈h.1,y=e.2.2.2+1/\fr<=y/\y<=to:=by
 obtain⟨h1,h2⟩:=sort_ok (fr::tkA fr to h.1)
 refine⟨h1,fun y=>?_⟩
 unfold zAb
 rw[h2 y,List.mem_cons,tkA_mem]
theorem brk_ok(h:Hs)(fr to press:Int):((xF h fr to press).2=true->(xF h fr to press).1∈zAb h fr to/\zQ h (xF h fr to press).1 press=false/\∀t∈zAb h fr to,t<(xF h fr to press).1->zQ h t press=true) /\
  ((xF h fr to press).2=false->(xF h fr to press).1=0/\∀t∈zAb h fr to,zQ h t press=true):=by
 obtain⟨h1,_⟩:=tks_ok h fr to
 unfold xF
 generalize zAb h fr to=ts at *
 by_cases c:ts.any (pK h press)=true
 ·rw[if_pos c]
  refine⟨fun _=>?_,fun e=>by cases e⟩
  dsimp only
  have hx:∃x∈ts,pK h press x=true:=List.any_eq_true.1 c
  have hl:=List.findIdx_lt_length_of_exists hx
  have e1:(ixS (pK h press) ts).toNat=ts.findIdx (pK h press):=by unfold ixS;rw[if_pos c];omega
  rw[e1,getD_el hl]
  refine⟨List.getElem_mem hl,?_,fun t ht hlt=>?_⟩
  ·have e2:(!zQ h (ts[ts.findIdx (pK h press)]) press)=true:=List.findIdx_getElem (p:=pK h press) (xs:=ts) (w:=hl)
   simpa using e2
  ·obtain⟨j,hj,rfl⟩:=List.mem_iff_getElem.1 ht
   have hji:j<ts.findIdx (pK h press):=by
    apply Decidable.byContradiction
    intro hn
    rcases Nat.lt_or_eq_of_le (Nat.le_of_not_lt hn) with e |e
    ·have:=List.pairwise_iff_getElem.1 h1 _ j hl hj e
     omega
    ·have:ts[j]=ts[ts.findIdx (pK h press)]:=by congr 1;exact e.symm
     omega
   have e2:(!zQ h (ts[j]) press)=false:=List.not_of_lt_findIdx hji
   simpa using e2
 ·rw[if_neg c]
  refine⟨fun e=>(by cases e),fun _=>⟨rfl,fun t ht=>?_⟩⟩
  have c' : ts.any (pK h press)=false:=by simpa using c
  have:=List.any_eq_false.1 c' t ht
  unfold pK at this
  simpa using this
theorem ex_max{u:Int}:∀{l:List Int},(∃x∈l,x<=u)->∃m∈l,m<=u/\∀x∈l,x<=u->x<=m
 | [],⟨x,hx,_⟩=>by cases hx
 |y::l,hex=>by
  by_cases c:∃x∈l,x<=u
  ·obtain⟨m,hm,h1,h2⟩:=ex_max c
   by_cases d:y<=u/\m<y
   ·refine⟨y,List.mem_cons_self,d.1,fun x hx hxu=>?_⟩
    rcases List.mem_cons.1 hx with rfl |hx
    ·exact Int.le_refl _
    ·have:=h2 x hx hxu;omega
   ·refine⟨m,List.mem_cons_of_mem _ hm,h1,fun x hx hxu=>?_⟩
    rcases List.mem_cons.1 hx with rfl |hx
    ·omega
    ·exact h2 x hx hxu
  ·obtain⟨x,hx,hxu⟩:=hex
   rcases List.mem_cons.1 hx with rfl |hx
   ·refine⟨x,List.mem_cons_self,hxu,fun z hz hzu=>?_⟩
    rcases List.mem_cons.1 hz with rfl |hz
    ·exact Int.le_refl _
    ·exact absurd ⟨z,hz,hzu⟩ c
   ·exact absurd ⟨x,hx,hxu⟩ c
theorem holds_between{h:Hs}(hn:0<=h.2.2) {fr to u press:Int}(h1:fr<=u) (h2:u<=to) (hh:∀t∈zAb h fr to,t<=u->zQ h t press=true):zQ h u press=true:=by
 obtain⟨_,hm⟩:=tks_ok h fr to
 obtain⟨m,hm1,hm2,hm3⟩:=ex_max (l:=zAb h fr to) ⟨fr,(hm fr).2 (.inl rfl),h1⟩
 refine g_ hn (fun e he hf=>?_) (hh m hm1 hm2)
 rw[effS_iff] at hf ⊢
 obtain⟨f1,⟨f2,f3⟩,f4⟩:=hf
 have hmf:fr<=m:=by
  rcases (hm m).1 hm1 with rfl |⟨x,_,_,h4,_⟩
  ·exact Int.le_refl _
  ·exact h4
 refine⟨f1,⟨by omega,?_⟩,f4⟩
 apply Decidable.byContradiction
 intro hc
 have:=hm3 (e.2.2.2+1) ((hm _).2 (.inr ⟨e,he,rfl,by omega,by omega⟩)) (by omega)
 omega
theorem lapse_some{h:Hs}(he:zB h=0) {fr press:Int}(hf:fr<=4398046511104):(xF h fr 4398046511104 press).2=true:=by
 cases c:(xF h fr 4398046511104 press).2 with
 |true=>rfl
 |false=>
  have k:=yD he
  have nd:=k.nd
  have h1:=((brk_ok h fr 4398046511104 press).2 c).2
  have h2:=holds_between (h:=h) (by omega) hf (Int.le_refl _) (fun t ht _=>h1 t ht)
  obtain⟨e,hm,h3⟩:=holds_some k h2
  rw[effS_iff] at h3
  have:=elE_ok (k.el e hm)
  omega
end
end Go.MB
