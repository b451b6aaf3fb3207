/- A copy of a site lies in new memory. -/
import Derived.Test.YtfhomgggbhjglaaMbAg
namespace Go.MB
open Go Go.Sx Go.Proofs
set_option linter.unusedVariables false
set_option linter.unusedSimpArgs false
noncomputable section
def cpObs (t c h o p:Int) (es:List E4) (vs:List (List Int)) (n:Int) (ps:List Pm) (k:Int):Exit × List SV × List (Option Ob) × List Bool :=
  (.normal,[.ptr 2041 0,.ptr 3041 0,.int .i64 vs.length,.int .i64 0],[some (.box [.int .i64 t,.int .i64 c,.int .i64 h,.int .i64 o,.int .i64 p,.own 12041,.own 18041,.int .i64 n,.own 7041,.int .i64 k]),some (.box [.int .i64 0,.int .i64 0,.int .i64 0,.int .i64 0,.int .i64 0,.nils,.nils,.int .i64 0,.nils,.int .i64 0]),some (.row 44 tPm ps),some (.row 70 tEl es),some (.row 22 tIs vs)],[true,true,true,true,true])
theorem cp_start {w:World} {I:Nat → Prop} {E:En} {S:St} {a:Act} {w1:World} {t c h o p:Int} {es:List E4} {vs:List (List Int)} {n:Int} {ps:List Pm} {k:Int}
    (hs:SatE ⟨w,fun _ => False,E0 I,noU,41,[]⟩ E S a w1) (e:Exit) (ho:(e,[1,2,23,24].map S.tmps,[2041,3041,7041,12041,18041].map S.heap,[2041,3041,7041,12041,18041].map S.used) = cpObs t c h o p es vs n ps k) (hl:vs.length ≤ 1000) (ha:∀ q ∈ vs,q.length ≤ 1000) :
    ∃ b0 cap xs,((E.sv 18041 = .slice none 0 0 ∧ vs = [] ∧ b0 = w1.heap.size) ∨ (E.sv 18041 = .slice (some ⟨E.ρ 18041,0,none⟩) vs.length cap ∧ b0 = E.ρ 18041)) ∧
      CpC.Ok ⟨w.heap.size,E.I,E.ρ 2041,E.ρ 3041,b0,w1,vs,xs,cap,t,c,h,o,p,n,k,E.sv 12041,E.sv 7041,E.sv 18041⟩ ∧
      CpC.At ⟨w.heap.size,E.I,E.ρ 2041,E.ρ 3041,b0,w1,vs,xs,cap,t,c,h,o,p,n,k,E.sv 12041,E.sv 7041,E.sv 18041⟩ 0 a w1:=by
  unfold cpObs at ho
  injection ho with he ho
  injection ho with ht ho
  injection ho with hh hu
  simp only [List.map_cons,List.map_nil,List.cons.injEq,and_true] at ht hh hu
  obtain ⟨r1,r2,r3,r4⟩:=ht
  obtain ⟨o1,o2,o3,o4,o5⟩:=hh
  have x1:=hs.tmps 1 (show 1 < 41 by decide)
  have x2:=hs.tmps 2 (show 2 < 41 by decide)
  have x3:=hs.tmps 23 (show 23 < 41 by decide)
  have x4:=hs.tmps 24 (show 24 < 41 by decide)
  rw [r1] at x1
  rw [r2] at x2
  rw [r3] at x3
  rw [r4] at x4
  unfold Rep at x1 x2 x3 x4
  have l1:Live E S.heap 2041:=⟨_,o1,trivial⟩
  have hm':=MarksAt.step (N:=w.heap.size) hs (Nat.le_refl _) (MarksAt.nil _ _ _) (fun b hb => hb.elim)
  obtain ⟨_,vs1,ty1,h1,h2⟩:=hs.heap.ob 2041 _ o1
  have k3:=ex_repL (by rfl) h2
  simp only [List.map_cons,List.map_nil,exV] at k3
  subst k3
  obtain ⟨_,xs,how,hfl,hsv⟩:=hs.heap.ob 18041 _ o5
  have sl:∀ {j:Nat} {e:TypeId} {ty:Ty} {l:List ty.den},S.heap j = some (.row e ty l) → ∃ a n c,E.sv j = .slice a n c:=by
    intro j e ty l hj
    obtain ⟨_,_,hw,_,_⟩:=hs.heap.ob j _ hj
    rcases hw.2 with ⟨e,_⟩ | ⟨_,_,_,_,_,e,_⟩
    · exact ⟨_,_,_,e⟩
    · exact ⟨_,_,_,e⟩
  rcases how.2 with ⟨hn,h0⟩ | ⟨g,cap,cur,ty,mk,hv,hg,hc,hcm,hsz,htk,hmk⟩
  · have hvs:vs = []:=List.eq_nil_of_length_eq_zero h0
    refine ⟨w1.heap.size,0,xs,.inl ⟨hn,hvs,rfl⟩,?_,?_⟩
    · exact ⟨hs.heap.frame.size,hs.heap.lt,hs.heap.imm 2041 l1,fun hI => Nat.lt_irrefl _ (hs.heap.lt _ hI),(fun e => by have:=hs.heap.liveLt l1; have e' : E.ρ 2041 = w1.heap.size:=e; omega),hs.heap.liveLt l1,fun hne => absurd hvs hne,fun hne => absurd hvs hne,sl o5,hfl,Nat.le_of_eq h0,Nat.zero_le _,sl o4,sl o3,hl,ha⟩
    · exact ⟨hs.size,hm',x1.2,x2.2,x3,x4,Frm.refl _ _,⟨ty1,h1⟩,fun hne => absurd hvs hne⟩
  · rcases hsv with hn | ⟨cap',hsv⟩
    · rw [hn] at hv; cases hv
    rw [hsv] at hv
    injection hv with e1 e2 e3
    injection e1 with e1
    injection e1 with e1
    subst e3
    subst e1
    have l5:Live E S.heap 18041:=⟨_,o5,by show E.sv 18041 ≠ _; rw [hsv]; simp⟩
    have hty:ty = 22 ∧ mk = (0,0):=by
      rcases hmk with h | ⟨h,_⟩
      · exact h
      · exact absurd h (by decide)
    obtain ⟨rfl,rfl⟩:=hty
    have hs1:tIs.size = 1:=rfl
    rw [hs1,Nat.mul_one] at hsz htk
    refine ⟨E.ρ 18041,cap',xs,.inr ⟨hsv,rfl⟩,?_,?_⟩
    · refine ⟨hs.heap.frame.size,hs.heap.lt,hs.heap.imm 2041 l1,hs.heap.imm 18041 l5,fun e => ?_,hs.heap.liveLt l1,fun _ => hs.heap.liveLt l5,fun _ => hsv,sl o5,hfl,hc,hcm,sl o4,sl o3,hl,ha⟩
      have:=hs.heap.inj 2041 18041 l1 l5 e
      cases this
    · exact ⟨hs.size,hm',x1.2,x2.2,x3,x4,Frm.refl _ _,⟨ty1,h1⟩,fun _ => ⟨cur,xs,hg,hsz,htk,fun _ _ => rfl,fun j d u hj => absurd hj (Nat.not_lt_zero _)⟩⟩
end
end Go.MB
