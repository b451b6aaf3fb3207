/- What a proof of the rule is: plain laws. -/
import Derived.Test.YtfhomgggbhjglaaGreatMuK
namespace Go.MB
open Go Go.Sx Go.Proofs
set_option linter.unusedVariables false
set_option linter.unusedSimpArgs false
noncomputable section
def shS(a b:List Int):Bool:=a.any fun x=>b.any fun y=>y==x
theorem shS_comm(a b:List Int):shS a b=shS b a:=by
 unfold shS
 rw[Bool.eq_iff_iff]
 simp only[List.any_eq_true,beq_iff_eq]
 constructor
 ·rintro⟨x,hx,y,hy,rfl⟩;exact⟨y,hy,y,hx,rfl⟩
 ·rintro⟨x,hx,y,hy,rfl⟩;exact⟨y,hy,y,hx,rfl⟩
theorem shS_disj(a b:List Int):disj a b = !shS a b:=by
 unfold disj shS
 congr 1
 rw[Bool.eq_iff_iff]
 simp only[List.any_eq_true,beq_iff_eq]
 constructor
 ·rintro⟨x,hx,y,hy,e⟩;exact⟨x,hx,y,hy,e.symm⟩
 ·rintro⟨x,hx,y,hy,e⟩;exact⟨x,hx,y,hy,e.symm⟩
def Dj(envs:List (List Int))(j k:Int):Prop:=disj (yQ envs j) (yQ envs k)=true
theorem prf_sound{envs:List (List Int)}:∀{l so:List Int}{n:Nat}{x:List Int},prf envs l so n=some x->so.Pairwise (Dj envs)->x.Pairwise (Dj envs)/\∃y,x=so++y/\y.Sublist l/\y.length=n
 |l,so,0,x,h,hp=>by
  rw[prf_zero] at h
  cases h
  exact⟨hp,[],(List.append_nil _).symm,List.nil_sublist _,rfl⟩
 | [],so,n+1,x,h,hp=>by rw[prf] at h;cases h
 |k::r,so,n+1,x,h,hp=>by
  rw[prf] at h
  split at h
  ·rename_i c
   split at h
   ·rename_i y hy
    cases h
    have hp' : (so++[k]).Pairwise (Dj envs):=List.pairwise_append.2 ⟨hp,List.pairwise_singleton _ _,fun a ha b hb=>by
     rw[List.mem_singleton.1 hb]
     exact List.all_eq_true.1 c a ha⟩
    obtain⟨p,y',e,s,len⟩:=prf_sound hy hp'
    exact⟨p,k::y',by rw[e,List.append_assoc];rfl,List.Sublist.cons_cons k s,by rw[List.length_cons,len]⟩
   ·obtain⟨p,y,e,s,len⟩:=prf_sound h hp
    exact⟨p,y,e,s.cons k,len⟩
  ·obtain⟨p,y,e,s,len⟩:=prf_sound h hp
   exact⟨p,y,e,s.cons k,len⟩
theorem prf_full{envs:List (List Int)}:∀{l so:List Int}{n:Nat}(s:List Int),s.Nodup->(∀a∈s,a∈l)->s.length=n->(∀a∈s,∀b∈s,a≠b->Dj envs a b)->(∀a∈so,∀b∈s,Dj envs a b)->(prf envs l so n).isSome=true
 |l,so,0,s,_,_,_,_,_=>by rw[prf_zero];rfl
 | [],so,n+1,s,_,h1,h2,_,_=>by
  cases s with
  |nil=>cases h2
  |cons a r=>exact absurd (h1 a List.mem_cons_self) (by simp)
 |k::r,so,n+1,s,h0,h1,h2,h3,h4=>by
  rw[prf]
  by_cases hk:k∈s
  ·have c:(so.all fun j=>disj (yQ envs j) (yQ envs k))=true:=List.all_eq_true.2 fun j hj=>h4 j hj k hk
   rw[if_pos c]
   have ih:=prf_full (envs:=envs) (l:=r) (so:=so++[k]) (n:=n) (s.erase k) (h0.erase k)
    (fun a ha=>by
     have:=(h0.mem_erase_iff).1 ha
     rcases List.mem_cons.1 (h1 a this.2) with e |e
     ·exact absurd e this.1
     ·exact e)
    (by rw[List.length_erase_of_mem hk,h2];rfl)
    (fun a ha b hb hab=>h3 a (List.mem_of_mem_erase ha) b (List.mem_of_mem_erase hb) hab)
    (fun a ha b hb=>by
     have hb':=(h0.mem_erase_iff).1 hb
     rcases List.mem_append.1 ha with ha |ha
     ·exact h4 a ha b hb'.2
     ·rw[List.mem_singleton.1 ha]
      exact h3 k hk b hb'.2 fun e=>hb'.1 e.symm)
   cases e:prf envs r (so++[k]) n with
   |some x=>rfl
   |none=>rw[e] at ih;cases ih
  ·have ih:=prf_full (envs:=envs) (l:=r) (so:=so) (n:=n+1) s h0
    (fun a ha=>by
     rcases List.mem_cons.1 (h1 a ha) with e |e
     ·exact absurd (e ▸ ha) hk
     ·exact e) h2 h3 h4
   split
   ·split
    ·rfl
    ·exact ih
   ·exact ih
theorem standF_asc(f:List Bool):∀(l:List (List Int))(i:Int),0<=i->(vU f l i).Pairwise (· < ·)
 | [],i,_=>List.Pairwise.nil
 |x::l,i,h=>by
  rw[vU]
  split
  ·exact List.Pairwise.cons (fun k hk=>by have:=(standF_ok f l (i+1) (by omega)).2 k hk;omega) (standF_asc f l (i+1) (by omega))
  ·exact standF_asc f l (i+1) (by omega)
theorem standF_in(f:List Bool):∀(l:List (List Int))(i:Int),0<=i->∀k∈vU f l i,inF f (l.getD (k - i).toNat [])=true
 | [],i,_,k,hk=>by cases hk
 |x::l,i,h,k,hk=>by
  have rc:∀k∈vU f l (i+1),inF f ((x::l).getD (k - i).toNat [])=true:=fun k hk=>by
   have h1:=(standF_ok f l (i+1) (by omega)).2 k hk
   have h2:=standF_in f l (i+1) (by omega) k hk
   rw[show (k - i).toNat=(k - (i+1)).toNat+1 by omega]
   exact h2
  rw[vU] at hk
  split at hk
  ·rename_i c
   rcases List.mem_cons.1 hk with rfl |hk
   ·rw[show (k - k).toNat=0 by omega];exact c
   ·exact rc k hk
  ·exact rc k hk
theorem getD_el{l:List Int}{i:Nat}(h:i<l.length):l.getD i 0=l[i]:=by
 rw[List.getD_eq_getElem?_getD,List.getElem?_eq_getElem h];rfl
theorem pw_all{R:Int->Int->Prop}(hs:∀a b,R a b->R b a):∀{l:List Int},l.Pairwise R->∀a∈l,∀b∈l,a≠b->R a b
 | [],_,a,ha,_,_,_=>by cases ha
 |x::l,h,a,ha,b,hb,hab=>by
  obtain⟨h1,h2⟩:=List.pairwise_cons.1 h
  rcases List.mem_cons.1 ha with e1 |ha
  ·rcases List.mem_cons.1 hb with e2 |hb
   ·exact absurd (e1.trans e2.symm) hab
   ·rw[e1];exact h1 b hb
  ·rcases List.mem_cons.1 hb with e2 |hb
   ·rw[e2];exact hs _ _ (h1 a ha)
   ·exact pw_all hs h2 a ha b hb hab
end
end Go.MB
