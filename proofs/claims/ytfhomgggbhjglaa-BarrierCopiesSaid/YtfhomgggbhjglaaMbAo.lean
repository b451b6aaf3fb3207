/- The law BarrierCopies: the walk in parts. -/
import Derived.Test.YtfhomgggbhjglaaMbAn
namespace Go.MB
open Go Go.Sx Go.Proofs
set_option linter.unusedVariables false
set_option linter.unusedSimpArgs false
noncomputable section
structure ShortS (d:Site):Prop where
  e:lenE d ≤ 1000
  v:lenV d ≤ 1000
  r:∀ j,lenR j d ≤ 1000
  p:lenP d ≤ 1000
theorem ShortS.sh {d d' : Site} (h:ShortS d) (k:SameSh tSite d d'):ShortS d':=⟨by rw [lenE_sh d d' k]; exact h.e,by rw [lenV_sh d d' k]; exact h.v,fun j => by rw [lenR_sh j d d' k]; exact h.r j,by rw [lenP_sh d d' k]; exact h.p⟩
set_option maxRecDepth 100000 in
theorem loops_ok {E1:En} {Nm:Nat} {K:Nat → Prop} {N:Nat} {w0:World} {d:Site} {a:Act} {w:World} {Q:Exit → Act → World → Prop} (hd:ShortS d) (h:Scr E1 [3111,6111] Nm K N 111 w0 [(7,.int .i64 0),(6,.adr tSite d),(2,.ptr 3111 0),(5,.ptr 6111 0)] a w)
    (hk:∀ (d' : Site) a' w',Scr E1 [3111,6111] Nm K N 111 w0 [(6,.adr tSite d'),(2,.ptr 3111 0),(5,.ptr 6111 0)] a' w' → eCps.wpIn (FR none) 0 P Q a' w'):lp1.wpIn (FR none) 0 P (Exit.then (zCps.wpIn (FR none) 0 P Q) Q) a w:=by
  have ez:zCps = .seq (.seq (cFst (cFst zCps)) lp2) (.seq (.seq (cFst (cFst uCps)) lp6) eCps):=by kernel_rfl
  refine wpIn_mono (lp1_ok hd.e h) ?_
  rintro e a1 w1' ⟨rfl,(d1:Site),hd1,h1⟩
  show zCps.wpIn (FR none) 0 P Q a1 w1'
  have s1:=hd.sh hd1
  rw [ez]
  refine wpIn_seq (wpIn_seq (wpIn_mono (h1.code hm 0 (cFst (cFst zCps)) (keys:=[8,6,2,5]) (Q:=fun x => x = (.normal,[.int .i64 0,.adr tSite d1,.ptr 3111 0,.ptr 6111 0],[],[])) ?_) ?_))
  · refine holds_eq (T_2s d1) ?_
    exact rfl
  rintro e a2 w2 ⟨svs,hq,hscr⟩
  injection hq with he hq
  injection hq with hsv _
  subst he
  subst hsv
  have h2:Scr E1 [3111,6111] Nm K N 111 w0 [(8,.int .i64 0),(6,.adr tSite d1),(2,.ptr 3111 0),(5,.ptr 6111 0)] a2 w2:=hscr rfl rfl
  show lp2.wpIn (FR none) 0 P _ a2 w2
  refine wpIn_mono (lp2_ok s1.v s1.r h2) ?_
  rintro e a3 w3 ⟨rfl,(d3:Site),hd3,h3⟩
  have s3:=s1.sh hd3
  show (Code.seq (.seq (cFst (cFst uCps)) lp6) eCps).wpIn (FR none) 0 P Q a3 w3
  refine wpIn_seq (wpIn_seq (wpIn_mono (h3.code hm 0 (cFst (cFst uCps)) (keys:=[10,6,2,5]) (Q:=fun x => x = (.normal,[.int .i64 0,.adr tSite d3,.ptr 3111 0,.ptr 6111 0],[],[])) ?_) ?_))
  · refine holds_eq (T_6s d3) ?_
    exact rfl
  rintro e a4 w4 ⟨svs,hq,hscr⟩
  injection hq with he hq
  injection hq with hsv _
  subst he
  subst hsv
  have h4:Scr E1 [3111,6111] Nm K N 111 w0 [(10,.int .i64 0),(6,.adr tSite d3),(2,.ptr 3111 0),(5,.ptr 6111 0)] a4 w4:=hscr rfl rfl
  show lp6.wpIn (FR none) 0 P _ a4 w4
  refine wpIn_mono (lp6_ok s3.p h4) ?_
  rintro e a5 w5 ⟨rfl,(d5:Site),hd5,h5⟩
  exact hk d5 a5 w5 h5
def csE (t c h o p:Int) (es:List E4) (vs:List (List Int)) (n:Int) (ps:List Pm) (k:Int):St:=stOf [(2,.ptr 3111 0),(5,.ptr 6111 0)]
  [(3111,some (.box (siteD t c h o p es vs n ps k))),(6111,some (.box (siteD t c h o p es vs n ps k)))] [3111,6111]
theorem T_csE (t c h o p:Int) (es:List E4) (vs:List (List Int)) (n:Int) (ps:List Pm) (k:Int):execC (P:=P) [c_rSame.gc,c_awake.gc] (fun _ => none) [] 111 0 eCps (csE t c h o p es vs n ps k) (fun _ => none) (fun e S _ => obsB P 111 Try.f9 S fun b => .leaf (e,b)) =
  Tree.need (sOk (t,c,h,o,p,(es,vs,n),ps,k) ∧ sOk (t,c,h,o,p,(es,vs,n),ps,k)) (.cond (sameB (t,c,h,o,p,(es,vs,n),ps,k) (t,c,h,o,p,(es,vs,n),ps,k)) (.leaf (Exit.ret,true)) (.leaf (Exit.ret,false))):=by kernel_rfl
end
end Go.MB
