/- The law BarrierCopies: after the copy. -/
import Derived.Test.YtfhomgggbhjglaaMbAq
namespace Go.MB
open Go Go.Sx Go.Proofs
set_option linter.unusedVariables false
set_option linter.unusedSimpArgs false
noncomputable section
theorem siteD_vals {E:En} {U:Nat → Bool} {w:World} {t c h o p n k:Int} {es:List E4} {vs:List (List Int)} {ps:List Pm} {us:List Value} (hr:RepL E U w (siteD t c h o p es vs n ps k) us) :
    ∃ x y z,us = [.int .i64 t,.int .i64 c,.int .i64 h,.int .i64 o,.int .i64 p,x,y,.int .i64 n,z,.int .i64 k] ∧ DRep E.I w (.sl tEl) es [x] ∧ DRep E.I w (.sl tIs) vs [y] ∧ DRep E.I w (.sl tPm) ps [z]:=by
  unfold RepL at hr
  obtain ⟨v0,r,rfl,g0,hr⟩:=hr
  unfold RepL at hr
  obtain ⟨v1,r,rfl,g1,hr⟩:=hr
  unfold RepL at hr
  obtain ⟨v2,r,rfl,g2,hr⟩:=hr
  unfold RepL at hr
  obtain ⟨v3,r,rfl,g3,hr⟩:=hr
  unfold RepL at hr
  obtain ⟨v4,r,rfl,g4,hr⟩:=hr
  unfold RepL at hr
  obtain ⟨v5,r,rfl,g5,hr⟩:=hr
  unfold RepL at hr
  obtain ⟨v6,r,rfl,g6,hr⟩:=hr
  unfold RepL at hr
  obtain ⟨v7,r,rfl,g7,hr⟩:=hr
  unfold RepL at hr
  obtain ⟨v8,r,rfl,g8,hr⟩:=hr
  unfold RepL at hr
  obtain ⟨v9,r,rfl,g9,hr⟩:=hr
  unfold RepL at hr
  subst hr
  unfold Rep at g0 g1 g2 g3 g4 g5 g6 g7 g8 g9
  subst g0 g1 g2 g3 g4 g7 g9
  exact ⟨v5,v6,v8,rfl,g5,g6,g8⟩
theorem frz_of {I:Nat → Prop} {E:En} {U:Nat → Bool} {w:World} {j:Nat} {ty:Ty} {l:List ty.den} {v:Value} (hI:∀ b,I b → E.I b) (hv:E.sv j = v) (h:DRep I w (.sl ty) l [v]):ObRep E U w j (.frz ty l):=by
  obtain ⟨u,hu,hsl⟩:=DRep.mono (I':=E.I) hI (fun _ _ => rfl) _ _ _ h
  cases hu
  show SlRep _ _ _ _ _ _
  rw [hv]
  exact hsl
theorem slice_of {I:Nat → Prop} {w:World} {ty:Ty} {l:List ty.den} {v:Value} (h:DRep I w (.sl ty) l [v]) : ∃ a n c,v = .slice a n c:=by
  obtain ⟨u,hu,p,cap,e,_⟩:=h
  cases hu
  exact ⟨_,_,_,e⟩
set_option maxRecDepth 100000 in
theorem cps_csB {B:Bs} {E:En} {S:St} {a:Act} {w3:World} {t c h o p:Int} {es:List E4} {vs:List (List Int)} {n:Int} {ps:List Pm} {k:Int} {t' c' h' o' p' : Int} {es' : List E4} {vs' : List (List Int)} {n' : Int} {ps' : List Pm} {k' : Int}
    (hs:SatE B E S a w3) (hn:B.n = 111) (t2:S.tmps 2 = .ptr 3111 0) (t3:S.tmps 3 = .ptr 4111 0) (t4:S.tmps 4 = .bool false) (t5:S.tmps 5 = .ptr 6111 0)
    (b2:S.heap 3111 = some (.box (siteD t c h o p es vs n ps k))) (b3:S.heap 4111 = some (.box (siteD t' c' h' o' p' es' vs' n' ps' k'))) (b5:S.heap 6111 = some (.box (siteD t c h o p es vs n ps k)))
    {J:Nat → Prop} {w4:World} {us:List Value} (hf:Frm w3 (fun _ => False) w4) (hJ1:∀ b,J b → w3.heap.size ≤ b) (hJ2:∀ b,J b → b < w4.heap.size) (hr:RepL (E0 J) noU w4 (siteD t c h o p es vs n ps k) us) :
    ∃ EB:En,EB.I = (fun b => E.I b ∨ J b) ∧ EB.ρ = E.ρ ∧ SatE ⟨w4,Mof EB (csB t c h o p es vs n ps k t' c' h' o' p' es' vs' n' ps' k').heap,EB,apU noU [3111,4111,6111,701,702,703,711,712,713,731,732,733],111,a.defers⟩ EB (csB t c h o p es vs n ps k t' c' h' o' p' es' vs' n' ps' k') (a.put (some 21) (.agg us.toArray)) w4 ∧
      DRep J w4 (.sl tEl) es [EB.sv 701] ∧ DRep J w4 (.sl tIs) vs [EB.sv 702] ∧ DRep J w4 (.sl tPm) ps [EB.sv 703] ∧ DRep E.I w4 (.sl tEl) es [EB.sv 711] ∧ DRep E.I w4 (.sl tIs) vs [EB.sv 712] ∧ DRep E.I w4 (.sl tPm) ps [EB.sv 713] ∧ DRep E.I w4 (.sl tEl) es [EB.sv 731] ∧ DRep E.I w4 (.sl tIs) vs [EB.sv 732] ∧ DRep E.I w4 (.sl tPm) ps [EB.sv 733]:=by
  obtain ⟨u5,u6,u8,eu,du5,du6,du8⟩:=siteD_vals hr
  obtain ⟨_,xs,ty2,g2,q2⟩:=hs.heap.ob 3111 _ b2
  obtain ⟨_,ys,ty3,g3,q3⟩:=hs.heap.ob 4111 _ b3
  obtain ⟨_,zs,ty5,g5,q5⟩:=hs.heap.ob 6111 _ b5
  have l2:Live E S.heap 3111:=⟨_,b2,trivial⟩
  have l3:Live E S.heap 4111:=⟨_,b3,trivial⟩
  have l5:Live E S.heap 6111:=⟨_,b5,trivial⟩
  rw [flatV_plain (by rfl) q2.length] at g2
  rw [flatV_plain (by rfl) q3.length] at g3
  rw [flatV_plain (by rfl) q5.length] at g5
  have hk:∀ b,b < w3.heap.size → w4.heap[b]? = w3.heap[b]?:=fun b hb => hf.block b hb fun x => x
  have up:∀ (ty:Ty) (d:ty.den) (v:List Value),DRep E.I w3 ty d v → DRep E.I w4 ty d v:=fun ty d v hd => DRep.mono (fun b hb => hb) (fun b hb => hk b (hs.heap.lt b hb)) _ _ _ hd
  obtain ⟨x5,x6,x8,ex,dx5,dx6,dx8⟩:=siteD_vals q2
  obtain ⟨z5,z6,z8,ez,dz5,dz6,dz8⟩:=siteD_vals q5
  have dx5:=up _ _ _ dx5
  have dx6:=up _ _ _ dx6
  have dx8:=up _ _ _ dx8
  have dz5:=up _ _ _ dz5
  have dz6:=up _ _ _ dz6
  have dz8:=up _ _ _ dz8
  let EB:En:=⟨E.ρ,fun j => bif Nat.beq j 701 then u5 else bif Nat.beq j 702 then u6 else bif Nat.beq j 703 then u8 else bif Nat.beq j 711 then x5 else bif Nat.beq j 712 then x6 else bif Nat.beq j 713 then x8 else bif Nat.beq j 731 then z5 else bif Nat.beq j 732 then z6 else z8,fun b => E.I b ∨ J b,E.rc⟩
  refine ⟨EB,rfl,rfl,?_,du5,du6,du8,dx5,dx6,dx8,dz5,dz6,dz8⟩
  have ri:∀ (n:Int),Rep EB (apU noU [3111,4111,6111,701,702,703,711,712,713,731,732,733]) w4 (.int .i64 n) (.int .i64 n):=fun n => by unfold Rep; rfl
  have site:∀ {a b d:Nat} {x y z:Value},Rep EB (apU noU [3111,4111,6111,701,702,703,711,712,713,731,732,733]) w4 (.own a) x → Rep EB (apU noU [3111,4111,6111,701,702,703,711,712,713,731,732,733]) w4 (.own b) y → Rep EB (apU noU [3111,4111,6111,701,702,703,711,712,713,731,732,733]) w4 (.own d) z →
      RepL EB (apU noU [3111,4111,6111,701,702,703,711,712,713,731,732,733]) w4 (siteM t c h o p n k a b d) [.int .i64 t,.int .i64 c,.int .i64 h,.int .i64 o,.int .i64 p,x,y,.int .i64 n,z,.int .i64 k]:=fun h1 h2 h3 =>
    RepL.cons (ri _) (RepL.cons (ri _) (RepL.cons (ri _) (RepL.cons (ri _) (RepL.cons (ri _) (RepL.cons h1 (RepL.cons h2 (RepL.cons (ri _) (RepL.cons h3 (RepL.cons (ri _) RepL.nil)))))))))
  have ow:∀ (j:Nat),j ∈ [3111,4111,6111,701,702,703,711,712,713,731,732,733] → (∃ a n c,EB.sv j = .slice a n c) → Rep EB (apU noU [3111,4111,6111,701,702,703,711,712,713,731,732,733]) w4 (.own j) (EB.sv j):=fun j hj hsl => by
    unfold Rep
    exact ⟨(stOf_used (ts:=[]) (hs:=[])).2 hj,rfl,hsl⟩
  have r7:=site (ow 701 (by decide) (slice_of du5)) (ow 702 (by decide) (slice_of du6)) (ow 703 (by decide) (slice_of du8))
  have r1:=site (ow 711 (by decide) (slice_of dx5)) (ow 712 (by decide) (slice_of dx6)) (ow 713 (by decide) (slice_of dx8))
  have r3:=site (ow 731 (by decide) (slice_of dz5)) (ow 732 (by decide) (slice_of dz6)) (ow 733 (by decide) (slice_of dz8))
  have lt2:=hs.heap.liveLt l2
  have lt3:=hs.heap.liveLt l3
  have lt5:=hs.heap.liveLt l5
  have boxes:∀ (kk:Nat) (oo:Ob),(kk,some oo) ∈ [(3111,some (Ob.box (siteM t c h o p n k 711 712 713))),(4111,some (.box (siteD t' c' h' o' p' es' vs' n' ps' k'))),(6111,some (.box (siteM t c h o p n k 731 732 733))),(701,some (.frz tEl es)),(702,some (.frz tIs vs)),(703,some (.frz tPm ps)),
    (711,some (.frz tEl es)),(712,some (.frz tIs vs)),(713,some (.frz tPm ps)),(731,some (.frz tEl es)),(732,some (.frz tIs vs)),(733,some (.frz tPm ps))] → oo.live EB kk → Live E S.heap kk:=by
    intro kk oo hk lk
    simp only [List.mem_cons,List.not_mem_nil,or_false,Prod.mk.injEq,Option.some.injEq] at hk
    rcases hk with ⟨rfl,rfl⟩ | ⟨rfl,rfl⟩ | ⟨rfl,rfl⟩ | ⟨rfl,rfl⟩ | ⟨rfl,rfl⟩ | ⟨rfl,rfl⟩ | ⟨rfl,rfl⟩ | ⟨rfl,rfl⟩ | ⟨rfl,rfl⟩ | ⟨rfl,rfl⟩ | ⟨rfl,rfl⟩ | ⟨rfl,rfl⟩
    · exact l2
    · exact l3
    · exact l5
    all_goals exact lk.elim
  have hn21:(21:Nat) < a.tmps.size:=by rw [hs.size,hn]; decide
  have x2:=hs.tmps 2 (by rw [hn]; decide)
  have x3:=hs.tmps 3 (by rw [hn]; decide)
  have x4:=hs.tmps 4 (by rw [hn]; decide)
  have x5':=hs.tmps 5 (by rw [hn]; decide)
  rw [t2] at x2
  rw [t3] at x3
  rw [t4] at x4
  rw [t5] at x5'
  unfold Rep at x2 x3 x4 x5'
  have pg:∀ j,j < 111 → j ≠ 21 → (a.put (some 21) (.agg us.toArray)).tmps.getD j undef = a.tmps.getD j undef:=fun j hj hne => by
    rw [put_get _ _ _ _ (by rw [hs.size,hn]; exact hj),if_neg (fun e => hne (Option.some.inj e).symm)]
  refine stOf_sat (by rw [put_size,hs.size,hn]) (by rw [put_defers]) ?_ ?_ ?_ ?_ ?_
  · intro q hq
    simp only [List.mem_cons,List.not_mem_nil,or_false] at hq
    rcases hq with rfl | rfl | rfl | rfl | rfl
    · rw [pg 2 (by decide) (by decide)]; unfold Rep; exact ⟨rfl,x2.2⟩
    · rw [pg 3 (by decide) (by decide)]; unfold Rep; exact ⟨rfl,x3.2⟩
    · rw [pg 4 (by decide) (by decide)]; unfold Rep; exact x4
    · rw [pg 5 (by decide) (by decide)]; unfold Rep; exact ⟨rfl,x5'.2⟩
    · rw [put_get _ _ _ _ hn21,if_pos rfl]
      unfold Rep
      exact ⟨us,rfl,by rw [eu]; exact r7⟩
  · intro kk oo hk'
    simp only [List.mem_cons,List.not_mem_nil,or_false,Prod.mk.injEq,Option.some.injEq] at hk'
    rcases hk' with ⟨rfl,rfl⟩ | ⟨rfl,rfl⟩ | ⟨rfl,rfl⟩ | ⟨rfl,rfl⟩ | ⟨rfl,rfl⟩ | ⟨rfl,rfl⟩ | ⟨rfl,rfl⟩ | ⟨rfl,rfl⟩ | ⟨rfl,rfl⟩ | ⟨rfl,rfl⟩ | ⟨rfl,rfl⟩ | ⟨rfl,rfl⟩
    · exact ⟨by decide,xs,ty2,by rw [flatV_plain (by rfl) (by rw [ex]; rfl)]; exact (hk _ lt2).trans g2,by rw [ex]; exact r1⟩
    · refine ⟨by decide,ys,ty3,by rw [flatV_plain (by rfl) q3.length]; exact (hk _ lt3).trans g3,?_⟩
      have h1:=data_repL (E:=E) (E':={ EB with I:=E.I }) (U':=apU noU [3111,4111,6111,701,702,703,711,712,713,731,732,733]) rfl _ _ (by rfl) q3
      exact RepL.mono (E:={ EB with I:=E.I }) (E':=EB) ⟨fun _ h => h,fun _ _ => rfl,fun _ _ => rfl,fun _ h => .inl h,fun b hb => hk b (hs.heap.lt b hb),fun _ _ => rfl⟩ _ _ h1
    · exact ⟨by decide,zs,ty5,by rw [flatV_plain (by rfl) (by rw [ez]; rfl)]; exact (hk _ lt5).trans g5,by rw [ez]; exact r3⟩
    · exact ⟨by decide,frz_of (fun b hb => .inr hb) rfl du5⟩
    · exact ⟨by decide,frz_of (fun b hb => .inr hb) rfl du6⟩
    · exact ⟨by decide,frz_of (fun b hb => .inr hb) rfl du8⟩
    · exact ⟨by decide,frz_of (fun b hb => .inl hb) rfl dx5⟩
    · exact ⟨by decide,frz_of (fun b hb => .inl hb) rfl dx6⟩
    · exact ⟨by decide,frz_of (fun b hb => .inl hb) rfl dx8⟩
    · exact ⟨by decide,frz_of (fun b hb => .inl hb) rfl dz5⟩
    · exact ⟨by decide,frz_of (fun b hb => .inl hb) rfl dz6⟩
    · exact ⟨by decide,frz_of (fun b hb => .inl hb) rfl dz8⟩
  · intro j oj kk ok hj hk' lj lk he
    exact hs.heap.inj j kk (boxes j oj hj lj) (boxes kk ok hk' lk) he
  · intro kk oo hk' lk
    have lv:=boxes kk oo hk' lk
    refine ⟨?_,kk,⟨oo,?_,lk⟩,rfl⟩
    · rintro (hx | hx)
      · exact hs.heap.imm kk lv hx
      · exact absurd (hs.heap.liveLt lv) (Nat.not_lt.2 (hJ1 _ hx))
    · simp only [List.mem_cons,List.not_mem_nil,or_false,Prod.mk.injEq,Option.some.injEq] at hk'
      rcases hk' with ⟨rfl,rfl⟩ | ⟨rfl,rfl⟩ | ⟨rfl,rfl⟩ | ⟨rfl,rfl⟩ | ⟨rfl,rfl⟩ | ⟨rfl,rfl⟩ | ⟨rfl,rfl⟩ | ⟨rfl,rfl⟩ | ⟨rfl,rfl⟩ | ⟨rfl,rfl⟩ | ⟨rfl,rfl⟩ | ⟨rfl,rfl⟩ <;> rfl
  · rintro b (hb | hb)
    · exact Nat.lt_of_lt_of_le (hs.heap.lt b hb) hf.size
    · exact hJ2 b hb
end
end Go.MB
