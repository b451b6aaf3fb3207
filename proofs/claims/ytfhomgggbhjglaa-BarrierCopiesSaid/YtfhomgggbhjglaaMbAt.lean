/- The law BarrierCopies: the whole. -/
import Derived.Test.YtfhomgggbhjglaaMbAs
namespace Go.MB
open Go Go.Sx Go.Proofs
set_option linter.unusedVariables false
set_option linter.unusedSimpArgs false
noncomputable section
theorem Frm.up {w0 w w' : World} {N:Nat} {M:Nat → Prop} (h:Frm w0 (fun b => N ≤ b) w) (k:Frm w M w') (hM:∀ b,M b → N ≤ b):Frm w0 (fun b => N ≤ b) w' :=
  h.trans' k fun b _ hb hm => hb (hM b hm)
theorem fin_true {I:Nat → Prop} {w w1 w2:World} {E:En} {U:Nat → Bool} {v:Value} (hI:∀ b,I b → b < w.heap.size) (f:Frm w (fun b => w.heap.size ≤ b) w1) (g1:w2.os = w1.os) (g2:w2.tape = w1.tape) (g3:w2.output = w1.output) (g4:w2.drawn = w1.drawn) (g5:w2.heap.size = w1.heap.size)
    (g6:∀ b,(w.heap.size ≤ b → w1.heap[b]? ≠ some (.deferred (some []))) → w2.heap[b]? = w1.heap[b]?) (hrep:Rep E U w2 (.bool true) v) :
    isData (.bool true) = true ∧ ∃ v',Ending.returned v = .returned v' ∧ Frm w (fun _ => False) w2 ∧ ∃ I',(∀ b,I b → I' b) ∧ (∀ b,I' b → I b ∨ w.heap.size ≤ b) ∧ (∀ b,I' b → b < w2.heap.size) ∧ Rep (E0 I') noU w2 (.bool true) v':=by
  refine ⟨rfl,v,rfl,⟨g1.trans f.os,g2.trans f.tape,g3.trans f.output,by rw [g5]; exact f.size,by rw [g4]; exact f.drawn,fun b hb _ => (g6 b fun hN => absurd hb (Nat.not_lt.2 hN)).trans (f.block b hb (Nat.not_le.2 hb))⟩,I,fun b h => h,fun b h => .inl h,fun b h => Nat.lt_of_lt_of_le (hI b h) (by rw [g5]; exact f.size),?_⟩
  unfold Rep at hrep ⊢
  exact hrep
theorem rep_of {I:Nat → Prop} {U:Nat → Bool} {w:World} {ty:Ty} {l:List ty.den} {v:Value} (h:DRep I w (.sl ty) l [v]):Rep (E0 I) U w (.sl ty l) v:=by
  unfold Rep
  exact h
theorem siteD_of {I:Nat → Prop} {w:World} {t c h o p n k:Int} {es:List E4} {vs:List (List Int)} {ps:List Pm} {x y z:Value} (d1:DRep I w (.sl tEl) es [x]) (d2:DRep I w (.sl tIs) vs [y]) (d3:DRep I w (.sl tPm) ps [z]) :
    RepL (E0 I) noU w (siteD t c h o p es vs n ps k) [.int .i64 t,.int .i64 c,.int .i64 h,.int .i64 o,.int .i64 p,x,y,.int .i64 n,z,.int .i64 k]:=by
  have ri:∀ (n:Int),Rep (E0 I) noU w (.int .i64 n) (.int .i64 n):=fun n => by unfold Rep; rfl
  exact RepL.cons (ri _) (RepL.cons (ri _) (RepL.cons (ri _) (RepL.cons (ri _) (RepL.cons (ri _) (RepL.cons (rep_of d1) (RepL.cons (rep_of d2) (RepL.cons (ri _) (RepL.cons (rep_of d3) (RepL.cons (ri _) RepL.nil)))))))))
theorem csB_live {t c h o p:Int} {es:List E4} {vs:List (List Int)} {n:Int} {ps:List Pm} {k:Int} {t' c' h' o' p' : Int} {es' : List E4} {vs' : List (List Int)} {n' : Int} {ps' : List Pm} {k' : Int} {E:En} {j:Nat} (hl:Live E (csB t c h o p es vs n ps k t' c' h' o' p' es' vs' n' ps' k').heap j):j = 3111 ∨ j = 4111 ∨ j = 6111:=by
  obtain ⟨oj,hj,lj⟩:=hl
  have hm:=stOf_heap hj
  simp only [List.mem_cons,List.not_mem_nil,or_false,Prod.mk.injEq,Option.some.injEq] at hm
  rcases hm with ⟨rfl,rfl⟩ | ⟨rfl,rfl⟩ | ⟨rfl,rfl⟩ | ⟨rfl,rfl⟩ | ⟨rfl,rfl⟩ | ⟨rfl,rfl⟩ | ⟨rfl,rfl⟩ | ⟨rfl,rfl⟩ | ⟨rfl,rfl⟩ | ⟨rfl,rfl⟩ | ⟨rfl,rfl⟩ | ⟨rfl,rfl⟩
  · exact .inl rfl
  · exact .inr (.inl rfl)
  · exact .inr (.inr rfl)
  all_goals exact lj.elim
def obsA (t c h o p:Int) (es:List E4) (vs:List (List Int)) (n:Int) (ps:List Pm) (k:Int) (t' c' h' o' p' : Int) (es' : List E4) (vs' : List (List Int)) (n' : Int) (ps' : List Pm) (k' : Int):Exit × List SV × List (Option Ob) × List Bool :=
  (.normal,[.ptr 3111 0,.ptr 4111 0,.bool false,.ptr 6111 0,.agg (siteD t c h o p es vs n ps k)],[some (.box (siteD t c h o p es vs n ps k)),some (.box (siteD t' c' h' o' p' es' vs' n' ps' k')),some (.box (siteD t c h o p es vs n ps k))],List.replicate 3 true)
def goodS (s:Site):Prop:=(bigH s.2.2.2.2.2.1 || decide ((s.2.2.2.2.2.2.1.length:Int) > 20)) = false
theorem goodS_ok {s:Site} (h:goodS s):sOk s:=by
  have k:=Bool.or_eq_false_iff.1 h
  have k2:=of_decide_eq_false k.2
  exact ⟨bigH_ok k.1,by omega⟩
theorem goodS_short {s:Site} (h:goodS s):ShortS s:=by
  obtain ⟨⟨h1,h2,h3⟩,h4⟩:=goodS_ok h
  refine ⟨by show (s.2.2.2.2.2.1.1.length:Int) ≤ 1000; omega,by show (s.2.2.2.2.2.1.2.1.length:Int) ≤ 1000; omega,fun j => ?_,by show (s.2.2.2.2.2.2.1.length:Int) ≤ 1000; omega⟩
  unfold lenR
  rcases Nat.lt_or_ge j.toNat s.2.2.2.2.2.1.2.1.length with hlt | hge
  · have:=h3 _ (getD_mem (d:=([] : List Int)) hlt)
    omega
  · rw [List.getD_eq_getElem?_getD,List.getElem?_eq_none hge]
    decide
def oCp:Oper:=(opsOf rCps).getD 1 default
theorem oCp_at:(arrOf rCps)[1]? = some oCp:=by kernel_rfl
theorem oCp_guard:oCp.guard = none:=by kernel_rfl
theorem oCp_op:oCp.op = .call { callee:=.value (.func 39),args:=#[.tmp 20],argTypes:=#[31] }:=by kernel_rfl
theorem oCp_dst:oCp.dst = some 21:=by kernel_rfl
theorem oCp_ent:entB P 39 = true:=by kernel_rfl
theorem copy_hand {t c h o p n k:Int} {es:List E4} {vs:List (List Int)} {ps:List Pm} (hs:sOk (t,c,h,o,p,(es,vs,n),ps,k)) {E:En} {U:Nat → Bool} {w:World} {v:Value} (hlt:∀ b,E.I b → b < w.heap.size) (hr:Rep E U w (.agg (siteD t c h o p es vs n ps k)) v) :
    Calls P 39 #[v] w fun e w' => ∃ us,e = .returned (.agg us.toArray) ∧ Frm w (fun _ => False) w' ∧ ∃ J:Nat → Prop,(∀ b,J b → w.heap.size ≤ b) ∧ (∀ b,J b → b < w'.heap.size) ∧ RepL (E0 J) noU w' (siteD t c h o p es vs n ps k) us:=by
  have hr2:RepL (E0 E.I) noU w (encL 0 [.agg tSite] ((t,c,h,o,p,(es,vs,n),ps,k),())) [v]:=by
    have h1:=data_rep (E:=E) (E':=E0 E.I) (U':=noU) rfl _ _ (by rfl) hr
    exact RepL.cons h1 RepL.nil
  have hc:=copy_fresh (t:=t) (c:=c) (h:=h) (o:=o) (p:=p) (n:=n) (k:=k) (es:=es) (vs:=vs) (ps:=ps) hs.1.1 hs.1.2.1 hs.1.2.2 hs.2 E.I w [v] hlt hr2
  refine hc.mono ?_
  rintro e w4 ⟨_,v,rfl,hf4,J,hJ1,hJ2,hrep⟩
  unfold Rep at hrep
  obtain ⟨us,rfl,hus⟩:=hrep
  exact ⟨us,rfl,hf4,J,hJ1,hJ2,hus⟩
set_option maxRecDepth 100000 in
theorem copies_ok {t c h o p:Int} {es:List E4} {vs:List (List Int)} {n:Int} {ps:List Pm} {k:Int} {t' c' h' o' p' : Int} {es' : List E4} {vs' : List (List Int)} {n' : Int} {ps' : List Pm} {k' : Int} :
    FnOk P 9 (encL 0 [.agg tSite,.agg tSite] ((t,c,h,o,p,(es,vs,n),ps,k),(t',c',h',o',p',(es',vs',n'),ps',k'),())) (.bool true):=by
  intro I w vals hI hr
  have hf:P.funcs[9]? = some Try.f9:=by kernel_rfl
  have hc:Try.f9.body = some bCps:=by kernel_rfl
  have hn:Try.f9.ntmps = 111:=by kernel_rfl
  have hcut:cut2 3 bCps = .seq rCps xCps:=by kernel_rfl
  have hreg:rCps = .region 4 (arrOf rCps) false:=by kernel_rfl
  refine (callsIn_wide (n:=0)).1 (callsIn_of_wp_marks (F:=FR none) hf hc trivial ?_ rfl)
  rw [hn]
  have hsat:=start_sat (n:=111) hI (by show 2 ≤ 111; decide) hr
  refine execCut hm (r0:=none) (u0:=noU) (cx:=[c_BigSite.gc,c_awake.gc,c_rCopy.gc]) (lp:=fun _ => none) (ys:=[]) (B:=⟨w,fun _ => False,E0 I,noU,111,[]⟩)
    (Q:=fun x => x = (.ret,[.bool true],[],[]) ∨ (x = obsA t c h o p es vs n ps k t' c' h' o' p' es' vs' n' ps' k' ∧ goodS (t,c,h,o,p,(es,vs,n),ps,k) ∧ goodS (t',c',h',o',p',(es',vs',n'),ps',k'))) (fun k hk => by cases hk) (fun h hh => by cases hh) 3 bCps 0
    (argSt (encL 0 [.agg tSite,.agg tSite] ((t,c,h,o,p,(es,vs,n),ps,k),(t',c',h',o',p',(es',vs',n'),ps',k'),()))) (fun _ => none) kCsA _ (loopsCp _ _ _ _) (kInv_none _ _) ?_ ?_ _ w ⟨E0 I,hsat⟩
  · refine holds_eq (T_csA t c h o p es vs n ps k t' c' h' o' p' es' vs' n' ps' k') ?_
    exact ⟨fun _ => .inl rfl,fun c1 => ⟨fun _ => .inl rfl,fun c2 => ⟨goodS_ok (s:=(t,c,h,o,p,(es,vs,n),ps,k)) c1,.inr ⟨rfl,c1,c2⟩⟩⟩⟩
  · intro e S' K' a w1 hK' hs' hk
    cases e with
    | ret =>
      have hk2:=obsB_holds (P:=P) (n:=111) (fn:=Try.f9) (S:=S') (k:=fun b => Tree.leaf (Exit.ret,[SV.bool b],[],[])) (show (obsB P 111 Try.f9 S' fun b => Tree.leaf (Exit.ret,[SV.bool b],([] : List (Option Ob)),([] : List Bool))).holds _ from hk)
      obtain ⟨E',hsE⟩:=hs'
      obtain ⟨b,hres,hk⟩:=hk2
      have hb:b = true:=by
        rcases (show _ ∨ _ from hk) with hq | ⟨hq,_⟩
        · injection hq with _ hq
          injection hq with hq _
          injection hq with hq _
          injection hq
        · have:=congrArg (·.1) hq
          cases this
      subst hb
      show LeavesInM (FR none) 0 P _ a.tmps _ a.defers .returning w1
      refine leaves_of hsE (MarksAt.step hsE (Nat.le_refl _) (MarksAt.nil _ _ _) (fun b hb => hb.elim)) hres fun v w2 g1 g2 g3 g4 g5 g6 hs7 hrep => ?_
      exact fin_true hI ((Frm.refl w _).trans' hsE.heap.frame fun _ _ _ x => x) g1 g2 g3 g4 g5 g6 hrep
    | normal =>
      show (cut2 3 bCps).wpIn (FR none) 0 P _ a w1
      rw [hcut]
      refine wpIn_seq ?_
      rw [hreg]
      refine wpIn_region ?_
      obtain ⟨r,S3,K3,hL,_,_,hk3⟩:=execOps_ok (P:=P) _ S' K' [] hK' (show (execOps (P:=P) [] 111 (arrOf rCps) false ((opsOf rCps).take 1) S' K' [] (fun S _ => obs [2,3,4,5,20] [3111,4111,6111] [3111,4111,6111] .normal S)).holds _ from hk)
      have er:List.range (arrOf rCps).size = List.range' 0 ((opsOf rCps).take 1).length ++ [1,2,3]:=by kernel_rfl
      rw [er]
      refine lex_opsK hL 0 (fun j o' ho' => ?_) a w1 hs' fun a3 w3 hs3 => ?_
      · have e0:(arrOf rCps).toList = (opsOf rCps):=by kernel_rfl
        rw [← Array.getElem?_toList,e0,Nat.zero_add]
        rw [List.getElem?_take] at ho'
        split at ho'
        · exact ho'
        · cases ho'
      rcases obs_holds hk3 with hq | ⟨hq,hg1,hg2⟩
      · have:=congrArg (·.1) hq
        cases this
      injection hq with _ hq
      injection hq with ht hq
      injection hq with hh _
      simp only [List.map_cons,List.map_nil,List.cons.injEq,and_true] at ht hh
      obtain ⟨t2,t3,t4,t5,t20⟩:=ht
      obtain ⟨b2,b3,b5⟩:=hh
      have s1:=goodS_ok hg1
      have s2:=goodS_ok hg2
      obtain ⟨E3,hs3⟩:=hs3
      have f3:Frm w (fun b => w.heap.size ≤ b) w3:=(Frm.refl w _).trans' hs3.heap.frame fun _ _ _ x => x
      have mk3:MarksAt w.heap.size w3 E3.I a3.defers:=MarksAt.step hs3 (Nat.le_refl _) (MarksAt.nil _ _ _) (fun b hb => hb.elim)
      have v20:=hs3.tmps 20 (show 20 < 111 by decide)
      rw [t20] at v20
      refine call_hand oCp_at oCp_guard oCp_op oCp_ent (by decide) ?_
      rw [oCp_dst]
      have ex:(#[.tmp 20] : Array Operand).map a3.eval = #[a3.tmps.getD 20 undef]:=by simp [Act.eval]
      rw [ex]
      refine (copy_hand s1 hs3.heap.lt v20).mono ?_
      rintro e w4 ⟨us,rfl,hf4,J,hJ1,hJ2,hus⟩
      refine ⟨_,rfl,?_⟩
      obtain ⟨EB,hBI,hBρ,hsB,d1,d2,d3,d11,d12,d13,d31,d32,d33⟩:=cps_csB (t':=t') (c':=c') (h':=h') (o':=o') (p':=p') (es':=es') (vs':=vs') (n':=n') (ps':=ps') (k':=k') hs3 rfl t2 t3 t4 t5 b2 b3 b5 hf4 hJ1 hJ2 hus
      refine cps_cond ⟨EB,hsB⟩ rfl s1 s2 fun S7 a7 w7 hs7 hq7 => ?_
      obtain ⟨E7,hs7⟩:=hs7
      injection hq7 with _ hq7
      injection hq7 with ht7 hq7
      injection hq7 with hh7 _
      simp only [List.map_cons,List.map_nil,List.cons.injEq,and_true] at ht7 hh7
      obtain ⟨u2,u5,u6,u7⟩:=ht7
      obtain ⟨c2,c4,c6,-,-,-,-,-,-,-,-,-,c7⟩:=hh7
      have U7:∀ j,j ∈ [3111,4111,6111,701,702,703,711,712,713,731,732,733] → apU noU [3111,4111,6111,701,702,703,711,712,713,731,732,733] j = true:=fun j hj => (stOf_used (ts:=[]) (hs:=[])).2 hj
      have ρ7:∀ j,j ∈ [3111,4111,6111,701,702,703,711,712,713,731,732,733] → E7.ρ j = E3.ρ j:=fun j hj => (hs7.le.rho j (U7 j hj)).trans (by rw [hBρ])
      have σ7:∀ j,j ∈ [3111,4111,6111,701,702,703,711,712,713,731,732,733] → E7.sv j = EB.sv j:=fun j hj => hs7.le.sv j (U7 j hj)
      have keep7:∀ b,EB.I b → w7.heap[b]? = w4.heap[b]?:=hs7.le.heap
      have JB:∀ b,J b → EB.I b:=fun b hb => by rw [hBI]; exact .inr hb
      have KB:∀ b,E3.I b → EB.I b:=fun b hb => by rw [hBI]; exact .inl hb
      have JE:∀ b,J b → E7.I b:=fun b hb => hs7.le.imm b (JB b hb)
      have KE:∀ b,E3.I b → E7.I b:=fun b hb => hs7.le.imm b (KB b hb)
      have upJ:∀ (ty:Ty) (d:ty.den) (v:List Value),DRep J w4 ty d v → DRep J w7 ty d v:=fun ty d v hd => DRep.mono (fun b hb => hb) (fun b hb => keep7 b (JB b hb)) _ _ _ hd
      have upK:∀ (ty:Ty) (d:ty.den) (v:List Value),DRep E3.I w4 ty d v → DRep E3.I w7 ty d v:=fun ty d v hd => DRep.mono (fun b hb => hb) (fun b hb => keep7 b (KB b hb)) _ _ _ hd
      have l2:Live E3 S3.heap 3111:=⟨_,b2,trivial⟩
      have l4:Live E3 S3.heap 4111:=⟨_,b3,trivial⟩
      have l6:Live E3 S3.heap 6111:=⟨_,b5,trivial⟩
      have ge:∀ j,Live E3 S3.heap j → w.heap.size ≤ E3.ρ j:=fun j hj => (hs3.heap.mine j hj).elim (fun h => h.elim) id
      have mof:∀ b,Mof EB (csB t c h o p es vs n ps k t' c' h' o' p' es' vs' n' ps' k').heap b → ∃ j,(j = 3111 ∨ j = 4111 ∨ j = 6111) ∧ b = E3.ρ j:=by
        rintro b ⟨j,hj,rfl⟩
        exact ⟨j,csB_live hj,by rw [hBρ]⟩
      have live3:∀ j,(j = 3111 ∨ j = 4111 ∨ j = 6111) → Live E3 S3.heap j ∧ Live E7 S7.heap j ∧ j ∈ [3111,4111,6111,701,702,703,711,712,713,731,732,733]:=by
        rintro j (rfl | rfl | rfl)
        · exact ⟨l2,⟨_,c2,trivial⟩,by decide⟩
        · exact ⟨l4,⟨_,c4,trivial⟩,by decide⟩
        · exact ⟨l6,⟨_,c6,trivial⟩,by decide⟩
      have hbN:w3.heap.size ≤ E7.ρ 7111:=by
        rcases hs7.heap.mine 7111 ⟨_,c7,trivial⟩ with hm | hm
        · exfalso
          obtain ⟨j,hj,e⟩:=mof _ hm
          obtain ⟨_,h7,hmem⟩:=live3 j hj
          have:=hs7.heap.inj 7111 j ⟨_,c7,trivial⟩ h7 (e.trans (ρ7 j hmem).symm)
          rcases hj with rfl | rfl | rfl <;> exact absurd this (by decide)
        · exact Nat.le_trans hf4.size hm
      have mk4:MarksAt w.heap.size w4 EB.I a3.defers:=mk3.keep (fun b hb => hf4.block b (Array.getElem?_eq_some_iff.1 hb).1 (fun x => x)) (fun b hb hi => by
        rw [hBI] at hi
        rcases hi with hi | hi
        · exact hi
        · exact absurd (Array.getElem?_eq_some_iff.1 hb).1 (Nat.not_lt.2 (hJ1 b hi)))
      have cellsOf:∀ j,Live E3 S3.heap j → (∃ cs,S3.heap j = some (.box cs)) → w4.heap[E3.ρ j]? ≠ some (.deferred (some [])):=by
        rintro j hj ⟨cs,hb⟩ hd
        obtain ⟨_,xs,ty,g,_⟩:=hs3.heap.ob j _ hb
        rw [hf4.block _ (hs3.heap.liveLt hj) (fun x => x),g] at hd
        cases hd
      have mk7:MarksAt w.heap.size w7 E7.I a7.defers:=MarksAt.step hs7 (Nat.le_trans f3.size hf4.size) mk4 (fun b hb => by
        obtain ⟨j,hj,rfl⟩:=mof _ hb
        rcases hj with rfl | rfl | rfl
        · exact cellsOf _ l2 ⟨_,b2⟩
        · exact cellsOf _ l4 ⟨_,b3⟩
        · exact cellsOf _ l6 ⟨_,b5⟩)
      have sz7:w3.heap.size ≤ w7.heap.size:=Nat.le_trans hf4.size hs7.heap.frame.size
      have scr:=cps_scr (N:=w3.heap.size) (Nm:=w.heap.size) (J:=J) (K:=E3.I) hs7 rfl u2 u5 u6 u7 c7 JE (by rw [σ7 701 (by decide)]; exact upJ _ _ _ d1) (by rw [σ7 702 (by decide)]; exact upJ _ _ _ d2) (by rw [σ7 703 (by decide)]; exact upJ _ _ _ d3) hJ1 hbN mk7 sz7 (Nat.le_trans f3.size sz7) KE
      obtain ⟨_,x2,ty2,g2,q2⟩:=hs7.heap.ob 3111 _ c2
      obtain ⟨_,x5,ty5,g5,q5⟩:=hs7.heap.ob 6111 _ c6
      rw [flatV_plain (by rfl) q2.length] at g2
      rw [flatV_plain (by rfl) q5.length] at g5
      have k2:=ex_repL (by rfl) q2
      have k5:=ex_repL (by rfl) q5
      simp only [List.map_cons,List.map_nil,exV] at k2 k5
      have r2:RepL (E0 E3.I) noU w7 (siteD t c h o p es vs n ps k) x2:=by
        rw [k2]
        exact siteD_of (by rw [σ7 711 (by decide)]; exact upK _ _ _ d11) (by rw [σ7 712 (by decide)]; exact upK _ _ _ d12) (by rw [σ7 713 (by decide)]; exact upK _ _ _ d13)
      have r5:RepL (E0 E3.I) noU w7 (siteD t c h o p es vs n ps k) x5:=by
        rw [k5]
        exact siteD_of (by rw [σ7 731 (by decide)]; exact upK _ _ _ d31) (by rw [σ7 732 (by decide)]; exact upK _ _ _ d32) (by rw [σ7 733 (by decide)]; exact upK _ _ _ d33)
      have e2:=ρ7 3111 (by decide)
      have e6:=ρ7 6111 (by decide)
      refine loops_ok (goodS_short hg1) scr fun d' a8 w8 hs8 => ?_
      refine wpIn_mono (cps_end (I:=E3.I) (v2:=x2) (v5:=x5) hs8 sz7 hs3.heap.lt ⟨ty2,g2⟩ ⟨ty5,g5⟩ r2 r5 (by rw [e2]; exact hs3.heap.liveLt l2) (by rw [e6]; exact hs3.heap.liveLt l6) (by
        rw [e2,e6]
        intro he
        exact absurd (hs3.heap.inj _ _ l2 l6 he) (by decide)) (by rw [e2]; exact hs3.heap.imm _ l2) (by rw [e6]; exact hs3.heap.imm _ l6) s1) ?_
      rintro e a9 w9 ⟨rfl,B,E,S,hsE,hBn,hm9,hres,f9⟩
      show LeavesInM (FR none) 0 P _ a9.tmps _ a9.defers .returning w9
      rw [← hBn] at hres
      have f4:=Frm.up f3 hf4 (fun _ x => x.elim)
      have f7:=Frm.up f4 hs7.heap.frame (fun b hb => by
        obtain ⟨j,hj,rfl⟩:=mof _ hb
        exact ge _ (live3 j hj).1)
      have f8:=Frm.up f7 hs8.fr (fun b hb => Nat.le_trans f3.size hb)
      have f9:=Frm.up f8 f9 (fun b hb => by
        rcases hb with rfl | rfl
        · rw [e2]; exact ge _ l2
        · rw [e6]; exact ge _ l6)
      refine leaves_of hsE hm9 hres fun v w10 g1 g2 g3 g4 g5 g6 hs10 hrep => ?_
      exact fin_true hI f9 g1 g2 g3 g4 g5 g6 hrep
    | _ => exact hk.elim
theorem copies_fn (x:denL [.agg tSite,.agg tSite]):FnOk P 9 (encL 0 [.agg tSite,.agg tSite] x) (.bool true):=by
  obtain ⟨⟨t,c,h,o,p,⟨es,vs,n⟩,ps,k⟩,⟨t',c',h',o',p',⟨es',vs',n'⟩,ps',k'⟩,⟨⟩⟩:=x
  exact copies_ok
def c_BarrierCopies:PC P where
  f:=9
  ps:=[.agg tSite,.agg tSite]
  pre:=fun _ => none
  out:=fun _ => .bool true
  ent:=by kernel_rfl
  ok:=fun x _ => copies_fn x
end
end Go.MB
