/- BarrierReplays. -/
import Derived.Test.YtfhomgggbhjglaaGreatMeH
import Derived.Test.YtfhomgggbhjglaaGreatMcH
import Derived.Test.YtfhomgggbhjglaaGreatMuK
namespace Go.MB
open Go Go.Sx Go.Proofs
set_option linter.unusedVariables false
set_option linter.unusedSimpArgs false
noncomputable section
theorem zSite_ok:sOk zSite:=⟨⟨by decide,by decide,fun q hq=>by cases hq⟩,by decide⟩
theorem runS_sOk(s:zX)(l:List zP):sOk (runS s l).1:=by
 unfold runS
 split
 ·exact zSite_ok
 ·rename_i c
  split
  ·exact zSite_ok
  ·exact (chkS_site (runG_ok l s 0 (Decidable.not_not.1 c))).sOk
theorem T_awakeX(_:Unit):zU (P:=P) [c_shown.gc,c_place.gc,c_Proof.gc,c_DoX.gc,c_SameInts.gc] (zI []) Tryz.f11 (jM 0 [] ()) =
 Tree.need (hOk (shownH.1,shownH.2.1,(2:Int))) (.need (sOk ((0:Int),(3:Int),(0:Int),(-1:Int),(1000:Int),(shownH.1,shownH.2.1,(2:Int)),[],(-1:Int))/\0<=900) (.need (sOk ((0:Int),(3:Int),(0:Int),(-1:Int),(1000:Int),(shownH.1,shownH.2.1,(2:Int)),[],(-1:Int))/\0<=900) (.cond true (.need ((prS (shownH.1,shownH.2.1,(2:Int)) 10 1000).1=[(0:Int),(2:Int)]/\(↑(List.length (prS (shownH.1,shownH.2.1,(2:Int)) 10 1000).1):Int)<2 ^ 62) (.cond true (.cond true (.cond true (.leaf (.bool true)) (.leaf (.bool false))) (.leaf (.bool false))) (.leaf (.bool false)))) (.leaf (.bool false))))):=by kernel_rfl
def c_awakeX:PC P:=PC.of (α:=Unit) 11 [] (fun x=>x) (fun x=>x) (fun _=>rfl)
 (fun _=>none)
 (fun x=>.bool true) (by kernel_rfl) (by
  rintro⟨⟩ hp
  refine fn_of hm (by kernel_rfl) (by kernel_rfl) (T_awakeX ()) trivial ?_
  try dsimp only at hp
  try dsimp only
  have h1:hOk (shownH.1,shownH.2.1,2):=⟨by decide,by decide,by decide⟩
  have h3:sOk (0,3,0,-1,1000,(shownH.1,shownH.2.1,2),[],-1):=⟨h1,by decide⟩
  have h4:(prS (shownH.1,shownH.2.1,2) 10 1000).1=[0,2]:=by decide +kernel
  exact⟨h1,⟨h3,by decide⟩,⟨h3,by decide⟩,fun c1=>⟨⟨h4,by rw[h4];decide⟩,fun c2=>⟨fun c3=>⟨fun c4=>rfl,fun c4=>absurd c4 (by decide +kernel)⟩,fun c3=>absurd c3 (by decide +kernel)⟩,fun c2=>absurd c2 (by decide +kernel)⟩,fun c1=>absurd c1 (by decide +kernel)⟩)
end
end Go.MB
