/- Rigs: which commands are lost, and what follows; the least ticks. -/
import Derived.Test.YtdoobpeacbcohaaMxW
import Derived.Test.YtdoobpeacbcohaaMxT
namespace Go.MR
open Go Go.Sx Go.Proofs
set_option linter.unusedVariables false
set_option linter.unusedSimpArgs false
noncomputable section
def lostG:List Bool → List Int → Int → List Int
  | b :: bl,x :: m,i => if (b && (x != 0)) = true then i :: lostG bl m (i + 1) else lostG bl m (i + 1)
  | _,_,_ => []
theorem lostG_rng:∀ {bl:List Bool} {m:List Int} {i:Int},∀ y ∈ lostG bl m i,i ≤ y ∧ y < i + m.length
  | [],[],i,y,h => by cases h
  | [],_ :: _,i,y,h => by cases h
  | _ :: _,[],i,y,h => by cases h
  | b :: bl,x :: m,i,y,h => by
    rw [lostG] at h
    have hl:((x :: m).length:Int) = m.length + 1:=by simp
    split at h
    · rcases List.mem_cons.1 h with rfl | h
      · omega
      · have:=lostG_rng y h; omega
    · have:=lostG_rng y h; omega
theorem appS_skip {i:Int} {rest:List Int}:∀ {s m:List Int} {k:Int},i < k → appS (i :: rest) s m k = appS rest s m k
  | [],[],k,_ => rfl
  | [],_ :: _,k,_ => rfl
  | _ :: _,[],k,_ => rfl
  | p :: s,x :: m,k,h => by
    rw [appS,appS,appS_skip (by omega),List.any_cons]
    have:eqV k i = false:=by unfold eqV; exact beq_eq_false_iff_ne.2 (by omega)
    rw [this,Bool.false_or]
theorem any_ge {l:List Int} {i:Int} (h:∀ y ∈ l,i < y):l.any (eqV i) = false:=by
  cases e:l.any (eqV i) with
  | false => rfl
  | true =>
    rw [List.any_eq_true] at e
    obtain ⟨y,hy,hh⟩:=e
    have:=h y hy
    unfold eqV at hh
    rw [beq_iff_eq] at hh
    omega
theorem lost_next:∀ {s m:List Int} {bl:List Bool} {i:Int} {l:Nat},s.length = m.length → bl.length = m.length → smallM s m → (lostG bl m i).length ≤ l → (appS (lostG bl m i) s m i,l - (lostG bl m i).length) ∈ nexts s m l
  | [],[],bl,i,l,_,hb,_,_ => by
    have:bl = []:=List.eq_nil_of_length_eq_zero hb
    subst this
    rw [nexts_nil,List.mem_singleton]; rfl
  | [],_ :: _,bl,i,l,h,_,_,_ => by simp at h
  | _ :: _,[],bl,i,l,h,_,_,_ => by simp at h
  | p :: s,x :: m,[],i,l,_,hb,_,_ => by simp at hb
  | p :: s,x :: m,b :: bl,i,l,h,hb,hs,hl => by
    have h' : s.length = m.length:=by simpa using h
    have hb' : bl.length = m.length:=by simpa using hb
    have hr:=fun y hy => (lostG_rng (bl:=bl) (m:=m) (i:=i + 1) y hy).1
    rw [nexts_cons,List.mem_append,List.mem_map]
    rw [lostG] at hl ⊢
    by_cases c:(b && (x != 0)) = true
    · rw [if_pos c] at hl ⊢
      have hx:x ≠ 0:=by
        intro e; subst e; rw [show ((0:Int) != 0) = false from rfl,Bool.and_false] at c; cases c
      rw [List.length_cons] at hl ⊢
      rw [if_neg hx]
      refine .inr ?_
      cases l with
      | zero => omega
      | succ l =>
        refine List.mem_map.2 ⟨_,lost_next (i:=i + 1) h' hb' hs.2 (by omega),?_⟩
        rw [appS,List.any_cons,show eqV i i = true by unfold eqV; exact beq_iff_eq.2 rfl,Bool.true_or,if_pos rfl,appS_skip (by omega)]
        rw [show l + 1 - ((lostG bl m (i + 1)).length + 1) = l - (lostG bl m (i + 1)).length by omega]
    · rw [if_neg c] at hl ⊢
      refine .inl ⟨_,lost_next (i:=i + 1) h' hb' hs.2 hl,?_⟩
      rw [appS,any_ge (fun y hy => by have:=hr y hy; omega),if_neg (by simp),hs.1]
theorem lst_le {p:Nat → Bool} (hp:∀ d,p d = true → p (d + 1) = true) {n d:Nat} (hd:d < n):(0 ≤ lst p n ∧ lst p n ≤ d) ↔ p d = true:=by
  have up:∀ k d:Nat,p d = true → p (d + k) = true:=fun k => by
    induction k with
    | zero => exact fun d h => h
    | succ k ih => exact fun d h => hp _ (ih d h)
  rcases lst_spec p n with ⟨h1,h2⟩ | ⟨k,h1,h2,h3,h4⟩
  · rw [h1,h2 d hd]
    constructor
    · intro h; omega
    · intro h; cases h
  · rw [h1]
    constructor
    · intro h
      have:=up (d - k) k h3
      rw [show k + (d - k) = d by omega] at this
      exact this
    · intro h
      refine ⟨by omega,?_⟩
      by_cases e:k ≤ d
      · omega
      · rw [h4 d (by omega)] at h; cases h
theorem tick_le {ps:List Int} {bs:List Ban} {g:List (Int × Int)} {l:Nat} {s:List Int} {d:Nat} (hd:d < 65):(0 ≤ tickD ps bs g l s ∧ tickD ps bs g l s ≤ d) ↔ reD ps bs g d l s = true :=
  lst_le (p:=fun d => reD ps bs g d l s) (fun d h => reD_mono d h) hd
theorem take_full {ps:List Int} {bs:List Ban} {g:List (Int × Int)} {l:Nat} (h:RgOk ps bs) (hl:l ≤ 2) {s m:List Int} (hs:VS ps s) (hm:m ∈ allM s.length) {d:Nat} (hd:d < 65) :
    takeM ps bs (cntTk ps bs g (l:Int)) s (l:Int) (d:Int) m = (okM ps bs s m && (nexts s m l).all fun y => reD ps bs g d y.2 y.1):=by
  have hI:=cntTk_inv h g hl
  unfold takeM
  cases ho:okM ps bs s m with
  | false => rw [Bool.false_and,Bool.false_and]
  | true =>
    have hml:=allM_len hm
    have hmi:=allM_is hm
    have sl:=hs.sl
    have l4:=h.l4
    have hp:=h.pr
    rw [Bool.true_and,Bool.true_and,reachS_all hml.symm (small_of h.pb hs.sl hs.si hmi) (by omega) (by omega),Int.toNat_natCast]
    unfold okM at ho
    rw [Bool.and_eq_true] at ho
    refine all_congr fun y hy => ?_
    obtain ⟨v1,v2⟩:=nexts_vs h.pb hs.sl (by omega) hs.si hmi (waysS_ok ho.1) hy
    obtain ⟨n1,n2,n3⟩:=h.num v1
    have e:=hI.2 y.2 y.1 v2 v1
    unfold tkL at e
    unfold okT
    rw [tkS_get _ _ _ n2 (by omega),Int.toNat_natCast,e]
    have hle:=tick_le (ps:=ps) (bs:=bs) (g:=g) (l:=y.2) (s:=y.1) hd
    unfold tickD at hle
    generalize lst (fun d => reD ps bs g d y.2 y.1) 65 = z at *
    rw [Bool.eq_iff_iff,← hle,Bool.and_eq_true,Bool.not_eq_true',Bool.not_eq_true',decide_eq_false_iff_not,decide_eq_false_iff_not]
    omega
theorem best_ok {ps:List Int} {bs:List Ban} {g:List (Int × Int)} {l:Nat} (h:RgOk ps bs) (hl:l ≤ 2) {s:List Int} (hs:VS ps s) {d:Nat} (hd:d < 64) (ht:tickD ps bs g l s = ((d + 1:Nat):Int)) :
    bestS ps bs (cntTk ps bs g (l:Int)) s (l:Int) (d:Int) ∈ allM s.length ∧ okM ps bs s (bestS ps bs (cntTk ps bs g (l:Int)) s (l:Int) (d:Int)) = true ∧
      ∀ y ∈ nexts s (bestS ps bs (cntTk ps bs g (l:Int)) s (l:Int) (d:Int)) l,reD ps bs g d y.2 y.1 = true:=by
  have h1:=(tick_le (ps:=ps) (bs:=bs) (g:=g) (l:=l) (s:=s) (d:=d + 1) (by omega)).1 (by omega)
  have h0:reD ps bs g d l s = false:=by
    cases e:reD ps bs g d l s with
    | false => rfl
    | true =>
      have:=(tick_le (ps:=ps) (bs:=bs) (g:=g) (l:=l) (s:=s) (d:=d) (by omega)).2 e
      omega
  rw [reD,h0,Bool.false_or,Bool.and_eq_true] at h1
  have hany:(allM s.length).any (takeM ps bs (cntTk ps bs g (l:Int)) s (l:Int) (d:Int)) = true:=by
    rw [any_congr fun m hm => take_full (g:=g) h hl hs hm (by omega)]
    exact h1.2
  obtain ⟨b1,b2⟩:=firstM_mem hany
  have e:bestS ps bs (cntTk ps bs g (l:Int)) s (l:Int) (d:Int) = firstM (takeM ps bs (cntTk ps bs g (l:Int)) s (l:Int) (d:Int)) (allM s.length):=rfl
  rw [← e] at b1 b2
  rw [take_full (g:=g) h hl hs b1 (by omega),Bool.and_eq_true,List.all_eq_true] at b2
  exact ⟨b1,b2.1,b2.2⟩
theorem nextS_of {r:Rig} (hg0:∀ g,goalS r g = 0 → checkS r = 0) {g:List (Int × Int)} (hg:goalS r g = 0) {l:Nat} (hl:l ≤ 2) {s:List Int} (hs:Sf r s) :
    nextS r s g l = if tickD r.1 r.2 g l s < 0 then ([],13) else if tickD r.1 r.2 g l s = 0 then (List.replicate s.length 0,0) else (bestS r.1 r.2 (cntTk r.1 r.2 g l) s l (tickD r.1 r.2 g l s - 1),0):=by
  have hw:wi (l:Int) 0 2 = true:=by unfold wi; rw [decide_eq_true (by omega),decide_eq_true (by omega)]; rfl
  have ha:askedS r s g l = 0:=by
    unfold askedS
    rw [hs.state,hg,hw]
    rfl
  have ht:=tickD_rng r.1 r.2 g l s
  unfold nextS
  rw [ha,if_neg (by simp),tickN_eq ha,Int.toNat_natCast]
  split
  · rfl
  · split
    · rfl
    · rw [B_id (by omega) (by omega)]
theorem ticksS_sf {r:Rig} {g:List (Int × Int)} (hg:goalS r g = 0) {l:Nat} (hl:l ≤ 2) {s:List Int} (hs:Sf r s):ticksS r s g l = if tickD r.1 r.2 g l s < 0 then (0,13) else (tickD r.1 r.2 g l s,0):=by
  rw [ticksS_of hs.ck hg hl hs.vs,hs.sf,if_pos rfl]
theorem tick_zero {ps:List Int} {bs:List Ban} {g:List (Int × Int)} {l:Nat} {s:List Int} (h:tickD ps bs g l s = 0):inG s g = true:=by
  have:=(tick_le (ps:=ps) (bs:=bs) (g:=g) (l:=l) (s:=s) (d:=0) (by omega)).1 (by omega)
  rw [reD,Bool.and_eq_true] at this
  exact this.2
end
end Go.MR
