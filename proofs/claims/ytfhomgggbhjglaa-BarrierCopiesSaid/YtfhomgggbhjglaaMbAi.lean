/- A copy of a site lies in new memory: the end. -/
import Derived.Test.YtfhomgggbhjglaaMbAh
namespace Go.MB
open Go Go.Sx Go.Proofs
set_option linter.unusedVariables false
set_option linter.unusedSimpArgs false
noncomputable section
def isFx:SV → Bool
  | .int _ _ => true
  | .bool _ => true
  | .nils => true
  | _ => false
theorem fx_repL {E:En} {U:Nat → Bool} {w:World}:∀ {cs:List SV},cs.all isFx = true → ∀ {E0:En},RepL E U w cs (cs.map (exV E0))
  | [],_,_ => RepL.nil
  | c :: cs,h,E0 => by
    simp only [List.all_cons,Bool.and_eq_true] at h
    rw [List.map_cons]
    refine RepL.cons ?_ (fx_repL h.2)
    have h1:=h.1
    cases c <;> first | (cases h1; done) | (unfold Rep; rfl)
theorem not_def {w0:World} {M:Nat → Prop} {E:En} {U:Nat → Bool} {H:Hp} {w:World} (hs:HSat w0 M E U H w):∀ b,Mof E H b → w.heap[b]? ≠ some (.deferred (some [])):=by
  rintro b ⟨k,⟨o,ho,hl⟩,rfl⟩
  exact (hs.ob k o ho).2.kind hl
abbrev siteN (t c h o p n k:Int) (es:List E4) (vs:List (List Int)) (ps:List Pm):List SV:=[.int .i64 t,.int .i64 c,.int .i64 h,.int .i64 o,.int .i64 p,.own 12041,.sl tIs vs,.int .i64 n,.own 7041,.int .i64 k]
structure CpZ (w:World) (t c h o p n k:Int) (es:List E4) (vs:List (List Int)) (ps:List Pm) (a:Act) (w' : World):Prop where
  ex : ∃ B E S,SatE B E S a w' ∧ B.n = 41 ∧ MarksAt w.heap.size w' E.I a.defers ∧ resL P 41 S (Try.f39).results.toList = some [.agg (siteN t c h o p n k es vs ps)] ∧
    S.heap 7041 = some (.row 44 tPm ps) ∧ S.heap 12041 = some (.row 70 tEl es) ∧ (∀ b,E.I b → w.heap.size ≤ b) ∧ ∀ j,j = 7041 ∨ j = 12041 → Live E S.heap j → w.heap.size ≤ E.ρ j
  frame:Frm w (fun _ => False) w'
set_option maxRecDepth 100000 in
theorem cp_tail {w:World} {I:Nat → Prop} {E:En} {S:St} {a1:Act} {w1:World} {t c h o p:Int} {es:List E4} {vs:List (List Int)} {n:Int} {ps:List Pm} {k:Int}
    (hs:SatE ⟨w,fun _ => False,E0 I,noU,41,[]⟩ E S a1 w1) (e:Exit) (ho:(e,[1,2,23,24].map S.tmps,[2041,3041,7041,12041,18041].map S.heap,[2041,3041,7041,12041,18041].map S.used) = cpObs t c h o p es vs n ps k)
    {b0 cap:Nat} {xs:List Value} (hb:(E.sv 18041 = .slice none 0 0 ∧ vs = [] ∧ b0 = w1.heap.size) ∨ (E.sv 18041 = .slice (some ⟨E.ρ 18041,0,none⟩) vs.length cap ∧ b0 = E.ρ 18041))
    (hC:CpC.Ok ⟨w.heap.size,E.I,E.ρ 2041,E.ρ 3041,b0,w1,vs,xs,cap,t,c,h,o,p,n,k,E.sv 12041,E.sv 7041,E.sv 18041⟩) {a:Act} {w5:World}
    (hA:CpC.At ⟨w.heap.size,E.I,E.ρ 2041,E.ρ 3041,b0,w1,vs,xs,cap,t,c,h,o,p,n,k,E.sv 12041,E.sv 7041,E.sv 18041⟩ vs.length a w5) :
    eCopy.wpIn (FR none) 0 P (fun e a' w' => e = .ret ∧ CpZ w t c h o p n k es vs ps a' w') a w5:=by
  unfold cpObs at ho
  injection ho with he ho
  injection ho with ht ho
  injection ho with hh hu
  simp only [List.map_cons,List.map_nil,List.cons.injEq,and_true] at ht hh hu
  obtain ⟨o1,o2,o3,o4,o5⟩:=hh
  have H1:=hs.heap
  have l1:Live E S.heap 2041:=⟨_,o1,trivial⟩
  have l2:Live E S.heap 3041:=⟨_,o2,trivial⟩
  have l5:vs ≠ [] → Live E S.heap 18041:=fun hne => ⟨_,o5,by
    show E.sv 18041 ≠ _
    rcases hb with ⟨_,hv,_⟩ | ⟨hsv,_⟩
    · exact absurd hv hne
    · rw [hsv]; simp⟩
  have hb0:vs ≠ [] → b0 = E.ρ 18041:=fun hne => by
    rcases hb with ⟨_,hv,_⟩ | ⟨_,h⟩
    · exact absurd hv hne
    · exact h
  have hsz:=hA.frame.size
  -- a live object that is no row of the envelopes stays
  have apart:∀ j,Live E S.heap j → j ≠ 18041 → E.ρ j ≠ b0:=by
    intro j hj hne he'
    rcases hb with ⟨_,_,hb⟩ | ⟨hsv,hb⟩
    · have:=H1.liveLt hj
      omega
    · have:=H1.inj j 18041 hj ⟨_,o5,by show E.sv 18041 ≠ _; rw [hsv]; simp⟩ (by rw [he',hb])
      exact hne this
  have stay:∀ j,Live E S.heap j → j ≠ 18041 → j ≠ 2041 → w5.heap[E.ρ j]? = w1.heap[E.ρ j]?:=by
    intro j hj h1 h2
    refine hA.frame.block _ (H1.liveLt hj) fun hM => ?_
    rcases hM with hM | hM
    · exact h2 (H1.inj j 2041 hj l1 hM)
    · exact apart j hj h1 hM
  have new:∀ j,Live E S.heap j → w.heap.size ≤ E.ρ j:=fun j hj => (H1.mine j hj).elim (fun h => h.elim) id
  have hb0N:w.heap.size ≤ b0:=by
    rcases hb with ⟨_,_,hb⟩ | ⟨hsv,hb⟩
    · have:=H1.frame.size
      have:w.heap.size ≤ w1.heap.size:=this
      omega
    · rw [hb]
      exact new 18041 ⟨_,o5,by show E.sv 18041 ≠ _; rw [hsv]; simp⟩
  let I5:Nat → Prop:=fun b => (vs ≠ [] ∧ b = b0) ∨ (w1.heap.size ≤ b ∧ b < w5.heap.size ∧ w5.heap[b]? ≠ some (.deferred (some [])))
  let E5:En:={ E with I:=I5 }
  have hI5:∀ b,I5 b → b < w5.heap.size:=by
    rintro b (⟨hne,rfl⟩ | hb)
    · exact Nat.lt_of_lt_of_le (hC.l0 hne) hsz
    · exact hb.2.1
  have hkI:∀ b,E.I b → w5.heap[b]? = w1.heap[b]?:=fun b hb => hA.frame.block b (H1.lt b hb) fun hM => hM.elim (fun e => hC.i1 (e ▸ hb)) (fun e => hC.i0 (e ▸ hb))
  have hle:En.Le S.used S.used E E w1 w5:=⟨fun _ h => h,fun _ _ => rfl,fun _ _ => rfl,fun _ h => h,hkI,fun _ _ => rfl⟩
  let U5:=apU noU [2041,3041,7041,12041]
  -- a row of flat elements
  have rowOf:∀ {j:Nat} {e:TypeId} {ty:Ty} {l:List ty.den},ty.flat = true → j ≠ 18041 → j ≠ 2041 → S.heap j = some (.row e ty l) → ObRep E5 U5 w5 j (.row e ty l):=by
    intro j e ty l hf h1 h2 hj
    obtain ⟨hU,hr⟩:=H1.ob j _ hj
    have:=hr.mono hle hU (fun hl => stay j ⟨_,hj,hl⟩ h1 h2)
    obtain ⟨ys,q1,q2,q3⟩:=this
    exact ⟨ys,q1,Flat.flat hf _ _ q2,q3⟩
  obtain ⟨ty5,hbox⟩:=hA.box
  obtain ⟨_,vs2,ty2,z1,z2⟩:=H1.ob 3041 _ o2
  have z3:=ex_repL (by rfl) z2
  have sl:∀ {j:Nat} {e:TypeId} {ty:Ty} {l:List ty.den},S.heap j = some (.row e ty l) → ∃ a n c,E.sv j = .slice a n c:=by
    intro j e ty l hj
    obtain ⟨_,_,hw,_,_⟩:=hs.heap.ob j _ hj
    rcases hw.2 with ⟨e,_⟩ | ⟨_,_,_,_,_,e,_⟩
    · exact ⟨_,_,_,e⟩
    · exact ⟨_,_,_,e⟩
  have henv:DRep I5 w5 (.sl tIs) vs [E.sv 18041]:=by
    rcases hb with ⟨hn,hv,_⟩ | ⟨hsv,hb'⟩
    · subst hv
      exact ⟨_,rfl,none,0,hn,Nat.le_refl _,.inl rfl⟩
    · refine ⟨_,rfl,_,cap,hsv,hC.cap,?_⟩
      by_cases hne:vs = []
      · exact .inl hne
      · obtain ⟨cur,us,g1,g2,g3,g4,g5⟩:=hA.row hne
        refine .inr ⟨E.ρ 18041,0,rfl,.inl ⟨hne,hb'.symm⟩,fun i d hd => ?_⟩
        have hi:i < vs.length:=(List.getElem?_eq_some_iff.1 hd).1
        have hul:us.length = vs.length:=by
          have e2:cur.size = cap:=g2
          have e3:cur.toList.take vs.length = us:=g3
          have e4:vs.length ≤ cur.toList.length:=by
            rw [Array.length_toList]
            exact Nat.le_trans hC.cap (Nat.le_of_eq e2.symm)
          rw [← e3,List.length_take]
          exact Nat.min_eq_left e4
        obtain ⟨u,hu⟩ : ∃ u,us[i]? = some u:=⟨_,List.getElem?_eq_getElem (by omega)⟩
        refine ⟨[u],fun m v hv => ?_,DRep.mono (fun b hb => .inr hb) (fun _ _ => rfl) _ _ _ (g5 i d u hi hd hu)⟩
        cases m with
        | succ m => simp at hv
        | zero =>
          simp only [List.getElem?_cons_zero,Option.some.injEq] at hv
          subst hv
          have e3:cur.toList.take vs.length = us:=g3
          rw [← e3,List.getElem?_take,if_pos hi,Array.getElem?_toList] at hu
          have g1' : w5.heap[E.ρ 18041]? = some (.cells cur 22 (0,0)):=by rw [← hb']; exact g1
          refine ⟨?_,by simp [World.frozen?,g1']⟩
          simp only [World.cell?,g1',Option.isSome_none,Bool.false_eq_true,if_false]
          rw [show 0 + i * tIs.size + 0 = i by show 0 + i * 1 + 0 = i; omega]
          exact hu
  have hmem:∀ k' o',(k',some o') ∈ [(2041,some (Ob.box (siteN t c h o p n k es vs ps))),(3041,some (.box [.int .i64 0,.int .i64 0,.int .i64 0,.int .i64 0,.int .i64 0,.nils,.nils,.int .i64 0,.nils,.int .i64 0])),(7041,some (.row 44 tPm ps)),(12041,some (.row 70 tEl es))] → k' ≠ 18041 ∧ (o'.live E5 k' → Live E S.heap k'):=by
    intro k' o' hk
    simp only [List.mem_cons,List.not_mem_nil,or_false,Prod.mk.injEq,Option.some.injEq] at hk
    rcases hk with ⟨rfl,rfl⟩ | ⟨rfl,rfl⟩ | ⟨rfl,rfl⟩ | ⟨rfl,rfl⟩
    · exact ⟨by decide,fun _ => l1⟩
    · exact ⟨by decide,fun _ => l2⟩
    · exact ⟨by decide,fun hl => ⟨_,o3,hl⟩⟩
    · exact ⟨by decide,fun hl => ⟨_,o4,hl⟩⟩
  have hsat:SatE ⟨w5,Mof E5 (cpEnd t c h o p es vs n ps k).heap,E5,U5,41,a.defers⟩ E5 (cpEnd t c h o p es vs n ps k) a w5:=by
    refine stOf_sat hA.size rfl ?_ ?_ ?_ ?_ hI5
    · intro p hp
      simp only [List.mem_cons,List.not_mem_nil,or_false] at hp
      rcases hp with rfl | rfl
      · unfold Rep; exact ⟨rfl,hA.t1⟩
      · unfold Rep; exact ⟨rfl,hA.t2⟩
    · intro k' o' hk
      simp only [List.mem_cons,List.not_mem_nil,or_false,Prod.mk.injEq,Option.some.injEq] at hk
      rcases hk with ⟨rfl,rfl⟩ | ⟨rfl,rfl⟩ | ⟨rfl,rfl⟩ | ⟨rfl,rfl⟩
      · refine ⟨by decide,[.int .i64 t,.int .i64 c,.int .i64 h,.int .i64 o,.int .i64 p,E.sv 12041,E.sv 18041,.int .i64 n,E.sv 7041,.int .i64 k],ty5,hbox,?_⟩
        have ri:∀ n,Rep E5 U5 w5 (.int .i64 n) (.int .i64 n):=fun n => by unfold Rep; rfl
        refine RepL.cons (ri _) (RepL.cons (ri _) (RepL.cons (ri _) (RepL.cons (ri _) (RepL.cons (ri _) (RepL.cons ?_ (RepL.cons ?_ (RepL.cons (ri _) (RepL.cons ?_ (RepL.cons (ri _) RepL.nil)))))))))
        · unfold Rep; exact ⟨rfl,rfl,sl o4⟩
        · unfold Rep; exact henv
        · unfold Rep; exact ⟨rfl,rfl,sl o3⟩
      · refine ⟨by decide,vs2,ty2,?_,?_⟩
        · rw [show E5.ρ 3041 = E.ρ 3041 from rfl,stay 3041 l2 (by decide) (by decide)]
          exact z1
        · rw [z3]
          exact fx_repL (by rfl)
      · exact ⟨by decide,rowOf rfl (by decide) (by decide) o3⟩
      · exact ⟨by decide,rowOf rfl (by decide) (by decide) o4⟩
    · intro j oj k' ok hj hk lj lk he'
      exact H1.inj j k' ((hmem j oj hj).2 lj) ((hmem k' ok hk).2 lk) he'
    · intro k' o' hk lk
      have lv:=(hmem k' o' hk).2 lk
      refine ⟨?_,k',⟨o',?_,lk⟩,rfl⟩
      · rintro (⟨hne,hx⟩ | ⟨hx,_⟩)
        · exact apart k' lv (hmem k' o' hk).1 hx
        · exact absurd (H1.liveLt lv) (Nat.not_lt.2 hx)
      · simp only [List.mem_cons,List.not_mem_nil,or_false,Prod.mk.injEq,Option.some.injEq] at hk
        rcases hk with ⟨rfl,rfl⟩ | ⟨rfl,rfl⟩ | ⟨rfl,rfl⟩ | ⟨rfl,rfl⟩ <;> rfl
  have hMN:∀ b,Mof E5 (cpEnd t c h o p es vs n ps k).heap b → w.heap.size ≤ b:=by
    rintro b ⟨k',⟨o',hk,lk⟩,rfl⟩
    exact new k' ((hmem k' o' (stOf_heap hk)).2 lk)
  have f1:Frm w (fun _ => False) w1:=H1.frame
  have f2:=hA.frame
  have hm5:MarksAt w.heap.size w5 I5 a.defers:=hA.marks.keep (fun _ _ => rfl) (fun b hd hI => by
    rcases hI with ⟨hne,rfl⟩ | ⟨_,_,hx⟩
    · obtain ⟨cur,us,g1,_⟩:=hA.row hne
      rw [g1] at hd
      cases hd
    · exact absurd hd hx)
  refine execC_ok hm (r0:=none) (u0:=U5) (cx:=[]) (lp:=fun _ => none) (ys:=[]) (Q:=fun x => x = (Exit.ret,siteN t c h o p n k es vs ps,[some (Ob.row 44 tPm ps),some (.row 70 tEl es)]))
    (B:=⟨w5,Mof E5 (cpEnd t c h o p es vs n ps k).heap,E5,U5,41,a.defers⟩) (fun k hk => hk) (fun h hh => by cases hh) eCopy 0 (cpEnd t c h o p es vs n ps k) (fun _ => none) (fun e S _ => obsR P 41 Try.f39 S fun cs => obsH S [7041,12041] fun b => .leaf (e,cs,b)) _ (loopsCp _ _ _ _) (kInv_none _ _) ?_ ?_ a w5 ⟨E5,hsat⟩
  · rw [T_cpE]
    exact rfl
  · intro e S' K' a' w' _ hs' hk
    have hk2:=obsR_holds (P:=P) (n:=41) (fn:=Try.f39) (S:=S') (k:=fun cs => obsH S' [7041,12041] fun b => .leaf (e,cs,b)) hk
    rcases hk2 with ⟨cs,hres,hk⟩ | ⟨s,hres,hk⟩
    · have hq:=obsH_holds _ _ hk
      injection hq with he hq
      injection hq with hcs hh
      simp only [List.map_cons,List.map_nil,List.cons.injEq,and_true] at hh
      obtain ⟨q1,q2⟩:=hh
      subst hcs
      obtain ⟨E6,hsE⟩:=hs'
      have fr:=hsE.heap.frame
      have hI6:∀ b,E6.I b → w.heap.size ≤ b:=by
        intro b hb
        have hf:I5 b ∨ Mof E5 (cpEnd t c h o p es vs n ps k).heap b ∨ w5.heap.size ≤ b:=hsE.fresh b hb
        rcases hf with (⟨_,hx⟩ | ⟨hx,_,_⟩) | hx | hx
        · rw [hx]; exact hb0N
        · exact Nat.le_trans f1.size hx
        · exact hMN b hx
        · exact Nat.le_trans f1.size (Nat.le_trans hsz hx)
      refine ⟨he,⟨_,E6,S',hsE,rfl,MarksAt.step hsE (Nat.le_trans f1.size hsz) hm5 (not_def hsat.heap),hres,q1,q2,hI6,?_⟩,?_⟩
      · rintro j hj ⟨oj,hoj,lj⟩
        have hU:U5 j = true:=by rcases hj with rfl | rfl <;> rfl
        have er:E6.ρ j = E.ρ j:=hsE.le.rho j hU
        have es' : E6.sv j = E.sv j:=hsE.le.sv j hU
        rw [er]
        refine new j ?_
        rcases hj with rfl | rfl
        · rw [q1] at hoj; cases hoj
          exact ⟨_,o3,by show E.sv 7041 ≠ _; rw [← es']; exact lj⟩
        · rw [q2] at hoj; cases hoj
          exact ⟨_,o4,by show E.sv 12041 ≠ _; rw [← es']; exact lj⟩
      · refine ⟨fr.os.trans (f2.os.trans f1.os),fr.tape.trans (f2.tape.trans f1.tape),fr.output.trans (f2.output.trans f1.output),Nat.le_trans f1.size (Nat.le_trans hsz fr.size),Nat.le_trans f1.drawn (Nat.le_trans f2.drawn fr.drawn),fun x hx _ => ?_⟩
        have b1:x < w1.heap.size:=Nat.lt_of_lt_of_le hx f1.size
        have n1:=new 2041 l1
        rw [fr.block x (Nat.lt_of_lt_of_le b1 hsz) (fun hM => absurd hx (Nat.not_lt.2 (hMN x hM))),f2.block x b1 (fun hM => ?_),f1.block x hx fun x => x]
        have hM' : x = E.ρ 2041 ∨ x = b0:=hM
        rcases hM' with hM' | hM' <;> omega
    · have hq:=obsH_holds _ _ hk
      injection hq with _ hq
      injection hq with hcs _
      cases hcs
end
end Go.MB
