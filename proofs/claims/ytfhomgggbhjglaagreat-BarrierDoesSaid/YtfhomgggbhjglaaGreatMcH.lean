/- The kit's lists of entries. -/
import Derived.Test.YtfhomgggbhjglaaGreatMcF
namespace Go.MB
open Go Go.Sx Go.Proofs
set_option linter.unusedVariables false
set_option linter.unusedSimpArgs false
noncomputable section
theorem T_BigSite(f g h j k:Int)(a:List (Int×V))(b:List (List Int))(d:Int)(e:List (Int×(Int×(Int×Bool))))(l:Int):jD (P:=P) [c_BigHouse.gc] (zH []) Tryz.f10 (z_ 0 [.agg (.pair tI (.pair tI (.pair tI (.pair tI (.pair tI (.pair (.pair (.sl (.pair tI tV)) (.pair (.sl tIs) tI)) (.pair (.sl (.pair tI (.pair tI (.pair tI .bool)))) tI)))))))] ((f,(g,(h,(j,(k,((a,(b,d)),(e,l))))))),())) =
 Tree.cond (bigH (a,b,d)) (.leaf (.bool true)) (.leaf (.bool (decide ((e.length:Int)>20)))):=by kernel_rfl
def c_BigSite:PC P:=PC.of (α:=(Int×(Int×(Int×(Int×(Int×((List (Int×V)×(List (List Int)×Int))×(List (Int×(Int×(Int×Bool)))×Int)))))))×Unit) 10 [.agg (.pair tI (.pair tI (.pair tI (.pair tI (.pair tI (.pair (.pair (.sl (.pair tI tV)) (.pair (.sl tIs) tI)) (.pair (.sl (.pair tI (.pair tI (.pair tI .bool)))) tI)))))))] (fun x=>x) (fun x=>x) (fun _=>rfl)
 (fun _=>none)
 (fun x=>.bool (bigH x.1.2.2.2.2.2.1||decide ((x.1.2.2.2.2.2.2.1.length:Int)>20))) (by kernel_rfl) (by
  rintro⟨⟨f,⟨g,⟨h,⟨j,⟨k,⟨⟨a,⟨b,d⟩⟩,⟨e,l⟩⟩⟩⟩⟩⟩⟩,⟨⟩⟩ hp
  refine yK hm (by kernel_rfl) (by kernel_rfl) (T_BigSite f g h j k a b d e l) trivial ?_
  try dsimp only at hp
  try dsimp only
  refine⟨fun c=>?_,fun c=>?_⟩
  ·exact congrArg SV.bool (by rw[c,Bool.true_or])
  ·exact congrArg SV.bool (by rw[c,Bool.false_or]))
end
end Go.MB
