/- The law BarrierCopies: from the copy to the end. -/
import Derived.Test.YtfhomgggbhjglaaMbAr
namespace Go.MB
open Go Go.Sx Go.Proofs
set_option linter.unusedVariables false
set_option linter.unusedSimpArgs false
noncomputable section
def obsC (t c h o p:Int) (es:List E4) (vs:List (List Int)) (n:Int) (ps:List Pm) (k:Int) (t' c' h' o' p' : Int) (es' : List E4) (vs' : List (List Int)) (n' : Int) (ps' : List Pm) (k' : Int):Exit × List SV × List (Option Ob) × List Bool :=
  (.normal,[.ptr 3111 0,.ptr 6111 0,.ptr 7111 0,.int .i64 0],[some (.box (siteM t c h o p n k 711 712 713)),some (.box (siteD t' c' h' o' p' es' vs' n' ps' k')),some (.box (siteM t c h o p n k 731 732 733)),some (.frz tEl es),some (.frz tIs vs),some (.frz tPm ps),some (.frz tEl es),some (.frz tIs vs),some (.frz tPm ps),some (.frz tEl es),some (.frz tIs vs),some (.frz tPm ps),some (.box (siteM t c h o p n k 701 702 703))],List.replicate 13 true)
set_option maxRecDepth 100000 in
theorem cps_cond {B:Bs} {Q:Exit → Act → World → Prop} {t c h o p:Int} {es:List E4} {vs:List (List Int)} {n:Int} {ps:List Pm} {k:Int} {t' c' h' o' p' : Int} {es' : List E4} {vs' : List (List Int)} {n' : Int} {ps' : List Pm} {k' : Int} {a4:Act} {w4:World}
    (hs:Sat B (csB t c h o p es vs n ps k t' c' h' o' p' es' vs' n' ps' k') a4 w4) (hn:B.n = 111) (s1:sOk (t,c,h,o,p,(es,vs,n),ps,k)) (s2:sOk (t',c',h',o',p',(es',vs',n'),ps',k'))
    (fin:∀ S a' w',Sat B S a' w' → (Exit.normal,[2,5,6,7].map S.tmps,[3111,4111,6111,701,702,703,711,712,713,731,732,733,7111].map S.heap,[3111,4111,6111,701,702,703,711,712,713,731,732,733,7111].map S.used) = obsC t c h o p es vs n ps k t' c' h' o' p' es' vs' n' ps' k' → lp1.wpIn (FR none) 0 P (Exit.then (zCps.wpIn (FR none) 0 P Q) Q) a' w') :
    wpOpsIn (FR none) 0 P (arrOf rCps) (Exit.then (xCps.wpIn (FR none) 0 P Q) Q) [2,3] a4 w4:=by
  obtain ⟨x1,x2,x3,x4,x5,x6⟩:=B
  replace hn:x5 = 111:=hn
  subst hn
  have hT:(execOps (P:=P) [] 111 (arrOf rCps) false ((opsOf rCps).drop 2) (csB t c h o p es vs n ps k t' c' h' o' p' es' vs' n' ps' k') (fun _ => none) [] kCsB).holds fun x => x = obsC t c h o p es vs n ps k t' c' h' o' p' es' vs' n' ps' k':=by
    refine holds_eq (T_csB t c h o p es vs n ps k t' c' h' o' p' es' vs' n' ps' k') ?_
    have e1:∀ z:Bool,(!z == z) = false:=fun z => by cases z <;> rfl
    have e2:sameB (t,c,h,o,p,(es,vs,n),ps,k) (t,c,h,o,p,(es,vs,n),ps,k) = true:=sameB_iff.2 rfl
    exact ⟨⟨s1,s2⟩,⟨s1,s2⟩,fun d => absurd d (by rw [e1]; decide),fun _ => ⟨⟨s1,s1⟩,fun d => absurd d (by rw [e2]; decide),fun _ => ⟨⟨s1,s1⟩,fun d => absurd d (by rw [e2]; decide),fun _ => rfl⟩⟩⟩
  obtain ⟨r,S',K',hL,hK',_,hk⟩:=execOps_ok _ _ _ [] (kInv_none _ _) hT
  have er:([2,3] : List Nat) = List.range' 2 ((opsOf rCps).drop 2).length ++ []:=by kernel_rfl
  have ex:xCps = .seq (cFst xCps) yCps:=by kernel_rfl
  have ey:yCps = .seq (.seq (cFst (cFst (cSnd xCps))) lp1) zCps:=by kernel_rfl
  rw [er]
  refine lex_opsK hL 2 (fun j o' ho' => ?_) a4 w4 hs fun a5 w5 hs5 => ?_
  · have e0:(arrOf rCps).toList = (opsOf rCps):=by kernel_rfl
    rw [← Array.getElem?_toList,e0]
    rw [List.getElem?_drop] at ho'
    exact ho'
  show xCps.wpIn (FR none) 0 P Q a5 w5
  rw [ex]
  refine wpIn_seq (execC_ok hm (r0:=none) (u0:=x4) (cx:=[c_pSame.gc,c_rSame.gc]) (lp:=fun _ => none) (ys:=[]) (B:=⟨x1,x2,x3,x4,111,x6⟩) (Q:=fun x => x = obsC t c h o p es vs n ps k t' c' h' o' p' es' vs' n' ps' k') (fun k hk => hk) (fun h hh => by cases hh) (cFst xCps) 0 S' K' kCsC _ (loopsCp _ _ _ _) hK' hk ?_ a5 w5 hs5)
  intro e S6 K6 a6 w6 hK6 hs6 hk6
  cases e with
  | normal =>
    show yCps.wpIn (FR none) 0 P Q a6 w6
    rw [ey]
    refine wpIn_seq (wpIn_seq (execC_ok hm (r0:=none) (u0:=x4) (cx:=[]) (lp:=fun _ => none) (ys:=[]) (B:=⟨x1,x2,x3,x4,111,x6⟩) (Q:=fun x => x = obsC t c h o p es vs n ps k t' c' h' o' p' es' vs' n' ps' k') (fun k hk => hk) (fun h hh => by cases hh) (cFst (cFst (cSnd xCps))) 0 S6 K6
      (fun e S _ => obs [2,5,6,7] [3111,4111,6111,701,702,703,711,712,713,731,732,733,7111] [3111,4111,6111,701,702,703,711,712,713,731,732,733,7111] e S) _ (loopsCp _ _ _ _) hK6 hk6 ?_ a6 w6 hs6))
    intro e S7 K7 a7 w7 _ hs7 hk7
    have hq:=obs_holds hk7
    have he:e = .normal:=congrArg (·.1) hq
    subst he
    exact fin S7 a7 w7 hs7 hq
  | _ =>
    have h6:=congrArg (·.1) (show (_:Exit × List SV × List (Option Ob) × List Bool) = _ from hk6)
    cases h6
end
end Go.MB
