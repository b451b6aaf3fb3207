/- The law BarrierCopies: its end. -/
import Derived.Test.YtfhomgggbhjglaaMbAo
namespace Go.MB
open Go Go.Sx Go.Proofs
set_option linter.unusedVariables false
set_option linter.unusedSimpArgs false
noncomputable section
set_option maxRecDepth 100000 in
theorem cps_end {E1:En} {Nm N:Nat} {w5:World} {d:Site} {a:Act} {w6:World} {I:Nat → Prop} {v2 v5:List Value} {t c h o p n k:Int} {es:List E4} {vs:List (List Int)} {ps:List Pm}
    (hs:Scr E1 [3111,6111] Nm I N 111 w5 [(6,.adr tSite d),(2,.ptr 3111 0),(5,.ptr 6111 0)] a w6) (hN:N ≤ w5.heap.size) (hI:∀ b,I b → b < N)
    (h2 : ∃ ty,w5.heap[E1.ρ 3111]? = some (.cells v2.toArray ty (0,0))) (h5 : ∃ ty,w5.heap[E1.ρ 6111]? = some (.cells v5.toArray ty (0,0)))
    (r2:RepL (E0 I) noU w5 (siteD t c h o p es vs n ps k) v2) (r5:RepL (E0 I) noU w5 (siteD t c h o p es vs n ps k) v5) (n2:E1.ρ 3111 < N) (n5:E1.ρ 6111 < N) (ne:E1.ρ 3111 ≠ E1.ρ 6111) (i2:¬ I (E1.ρ 3111)) (i5:¬ I (E1.ρ 6111))
    (hok:sOk (t,c,h,o,p,(es,vs,n),ps,k)) :
    eCps.wpIn (FR none) 0 P (fun e a' w' => e = .ret ∧ ∃ B E S,SatE B E S a' w' ∧ B.n = 111 ∧ MarksAt Nm w' E.I a'.defers ∧ resL P 111 S (Try.f9).results.toList = some [.bool true] ∧ Frm w6 (fun b => b = E1.ρ 3111 ∨ b = E1.ρ 6111) w') a w6:=by
  obtain ⟨J,hJ,hst,⟨ds,de,dn,dh⟩⟩:=hs.st
  have keep:∀ b,b < N → w6.heap[b]? = w5.heap[b]?:=fun b hb => hs.fr.block b (Nat.lt_of_lt_of_le hb hN) (Nat.not_le.2 hb)
  let EE:En:={ E1 with I:=I }
  let UU:=apU noU [3111,6111]
  have box:∀ {v:List Value},RepL (E0 I) noU w5 (siteD t c h o p es vs n ps k) v → RepL EE UU w6 (siteD t c h o p es vs n ps k) v:=by
    intro v hr
    have h1:=data_repL (E:=E0 I) (E':=EE) (U':=UU) rfl _ _ (by rfl) hr
    exact RepL.mono (E:=EE) (E':=EE) (U:=UU) (U':=UU) ⟨fun _ h => h,fun _ _ => rfl,fun _ _ => rfl,fun _ h => h,fun b hb => keep b (hI b hb),fun _ _ => rfl⟩ _ _ h1
  obtain ⟨ty2,g2⟩:=h2
  obtain ⟨ty5,g5⟩:=h5
  have f2:w6.heap[E1.ρ 3111]? = some (.cells v2.toArray ty2 (0,0)):=by rw [keep _ n2]; exact g2
  have f5:w6.heap[E1.ρ 6111]? = some (.cells v5.toArray ty5 (0,0)):=by rw [keep _ n5]; exact g5
  have x2:=hst.tmps 2 (show 2 < 111 by decide)
  have x5:=hst.tmps 5 (show 5 < 111 by decide)
  have y2:a.tmps.getD 2 undef = .pointer (some ⟨E1.ρ 3111,0,none⟩):=by
    have:Rep { E1 with I:=J } (apU noU [3111,6111]) w6 (.ptr 3111 0) (a.tmps.getD 2 undef):=x2
    unfold Rep at this
    exact this.2
  have y5:a.tmps.getD 5 undef = .pointer (some ⟨E1.ρ 6111,0,none⟩):=by
    have:Rep { E1 with I:=J } (apU noU [3111,6111]) w6 (.ptr 6111 0) (a.tmps.getD 5 undef):=x5
    unfold Rep at this
    exact this.2
  have hsat:SatE ⟨w6,fun b => b = E1.ρ 3111 ∨ b = E1.ρ 6111,EE,UU,111,a.defers⟩ EE (csE t c h o p es vs n ps k) a w6:=by
    refine stOf_sat hst.size rfl ?_ ?_ ?_ ?_ (fun b hb => Nat.lt_of_lt_of_le (hI b hb) hs.size)
    · intro p hp
      simp only [List.mem_cons,List.not_mem_nil,or_false] at hp
      rcases hp with rfl | rfl
      · unfold Rep; exact ⟨rfl,y2⟩
      · unfold Rep; exact ⟨rfl,y5⟩
    · intro k' o' hk
      simp only [List.mem_cons,List.not_mem_nil,or_false,Prod.mk.injEq,Option.some.injEq] at hk
      rcases hk with ⟨rfl,rfl⟩ | ⟨rfl,rfl⟩
      · exact ⟨by decide,v2,ty2,by rw [flatV_plain (by rfl) r2.length]; exact f2,box r2⟩
      · exact ⟨by decide,v5,ty5,by rw [flatV_plain (by rfl) r5.length]; exact f5,box r5⟩
    · intro j oj k' ok hj hk lj lk he
      simp only [List.mem_cons,List.not_mem_nil,or_false,Prod.mk.injEq,Option.some.injEq] at hj hk
      rcases hj with ⟨rfl,rfl⟩ | ⟨rfl,rfl⟩ <;> rcases hk with ⟨rfl,rfl⟩ | ⟨rfl,rfl⟩
      · rfl
      · exact absurd he ne
      · exact absurd he.symm ne
      · rfl
    · intro k' o' hk lk
      simp only [List.mem_cons,List.not_mem_nil,or_false,Prod.mk.injEq,Option.some.injEq] at hk
      rcases hk with ⟨rfl,rfl⟩ | ⟨rfl,rfl⟩
      · exact ⟨i2,.inl rfl⟩
      · exact ⟨i5,.inr rfl⟩
  have hmk:MarksAt Nm w6 I a.defers:=⟨ds,de,dn,fun x hx => ⟨(dh x hx).1,fun hi => (dh x hx).2.1 (.inr hi),(dh x hx).2.2⟩⟩
  refine execC_ok hm (r0:=none) (u0:=UU) (cx:=[c_rSame.gc,c_awake.gc]) (lp:=fun _ => none) (ys:=[]) (Q:=fun x => x = (Exit.ret,true))
    (B:=⟨w6,fun b => b = E1.ρ 3111 ∨ b = E1.ρ 6111,EE,UU,111,a.defers⟩) (fun k hk => hk) (fun h hh => by cases hh) eCps 0 (csE t c h o p es vs n ps k) (fun _ => none) (fun e S _ => obsB P 111 Try.f9 S fun b => .leaf (e,b)) _ (loopsCp _ _ _ _) (kInv_none _ _) ?_ ?_ a w6 ⟨EE,hsat⟩
  · refine holds_eq (T_csE t c h o p es vs n ps k) ?_
    exact ⟨⟨hok,hok⟩,fun _ => rfl,fun c => absurd (sameB_iff.2 rfl) (by rw [c]; decide)⟩
  · intro e S' K' a' w' _ hs' hk
    have hk2:=obsB_holds (P:=P) (n:=111) (fn:=Try.f9) (S:=S') (k:=fun b => .leaf (e,b)) hk
    obtain ⟨E',hsE⟩:=hs'
    obtain ⟨b,hres,hk⟩:=hk2
    have hq:(e,b) = (Exit.ret,true):=hk
    injection hq with he hq
    subst he
    subst hq
    exact ⟨rfl,_,E',S',hsE,rfl,MarksAt.step hsE hs.nm hmk (fun b hb hd => by
      rcases hb with rfl | rfl
      · rw [f2] at hd; cases hd
      · rw [f5] at hd; cases hd),hres,hsE.heap.frame⟩
end
end Go.MB
