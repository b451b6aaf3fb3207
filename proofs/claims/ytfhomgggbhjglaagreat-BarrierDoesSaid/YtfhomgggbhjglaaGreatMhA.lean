/- The function do in parts: its trees. -/
import Derived.Test.YtfhomgggbhjglaaGreatMuX
import Derived.Test.YtfhomgggbhjglaaGreatMuAf
import Derived.Test.YtfhomgggbhjglaaGreatFw5
namespace Go.MB
open Go Go.Sx Go.Proofs
set_option linter.unusedVariables false
set_option linter.unusedSimpArgs false
noncomputable section
def bDo:Code:=zJ Tryz.f50
def vL:Code->List Oper
 |.region _ ops _=>ops.toList
 |_=>[]
def vI:Code->Array Oper
 |.region _ ops _=>ops
 |_=>#[]
def vV:Code:=yR (yZ 4 bDo)
def sDo11:Code:=yR (yZ 5 bDo)
def rDo14:Code:=yR (yZ 6 bDo)
def blk1:Code:=cIn (yR (yZ 7 bDo))
def tDo22:Code:=yZ 8 bDo
def obsT{β:Type}(P:Program) (n:Nat) (fn:Func) (S:St) (k:List SV->Tree β):Tree β:=match zAd P n S fn.results.toList with
 |some [.agg cs,.int q m]=>obsL cs fun cs=>k [.agg cs,.int q m]
 |_=>.fail 55
theorem kO{β:Type}{Q:β->Prop}{P:Program}{n:Nat}{fn:Func}{S:St}{k:List SV->Tree β}(h:(obsT P n fn S k).holds Q):∃cs q m,zAd P n S fn.results.toList=some [.agg cs,.int q m]/\(k [.agg cs,.int q m]).holds Q:=by
 unfold obsT at h
 split at h
 ·rename_i cs q m hr
  exact⟨cs,q,m,hr,kP cs (fun cs=>k [.agg cs,.int q m]) h⟩
 ·exact h.elim
abbrev fR(t c h o p:Int)(es:List E4)(vs:List (List Int))(n:Int)(ps:List Pm)(k:Int):List SV:=[.int .i64 t,.int .i64 c,.int .i64 h,.int .i64 o,.int .i64 p,.sl tEl es,.sl tIs vs,.int .i64 n,.sl tPm ps,.int .i64 k]
abbrev siteM(t c h o p n k:Int)(a b d:Nat):List SV:=[.int .i64 t,.int .i64 c,.int .i64 h,.int .i64 o,.int .i64 p,.own a,.own b,.int .i64 n,.own d,.int .i64 k]
abbrev siteR(t c h o p:Int)(vs:List (List Int))(n k:Int)(a b:Nat):List SV:=[.int .i64 t,.int .i64 c,.int .i64 h,.int .i64 o,.int .i64 p,.own a,.sl tIs vs,.int .i64 n,.own b,.int .i64 k]
abbrev entD(e0 e1 e2 e3 e4 e5:Int):List SV:=[.int .i64 e0,.int .i64 e1,.int .i64 e2,.int .i64 e3,.int .i64 e4,.int .i64 e5]
abbrev xS:List SV:=[.int .i64 0,.int .i64 0,.int .i64 0,.int .i64 0,.int .i64 0,.nils,.nils,.int .i64 0,.nils,.int .i64 0]
def kDA(e:Exit)(S:St)(K:Kn):Tree (Exit×List SV×List (Option Ob)×List Bool):=match e with
 |.normal=>jQ (P:=P) [] 86 (vI vV) false ((vL vV).take 1) S K [] (fun S _=>obs [2,3,4,6,42] [3086,4086,5086] [3086,4086,5086] .normal S)
 |.ret=>obsT P 86 Tryz.f50 S fun r=>.leaf (.ret,r,[],[])
 |_=>.fail 60
theorem T_dA(t c h o p:Int)(es:List E4)(vs:List (List Int))(n:Int)(ps:List Pm)(k:Int)(e0 e1 e2 e3 e4 e5:Int):jR (P:=P) [wE.gc,kY.gc,c_deeds.gc] (fun _=>none) [] 86 0 (cut1 4 bDo) (fW (z_ 0 [.agg zR,.agg jE] ((t,c,h,o,p,(es,vs,n),ps,k),(e0,e1,e2,e3,e4,e5),()))) (fun _=>none) kDA =
 Tree.cond (!wi e0 0 1099511627776) (.leaf (Exit.ret,[.agg [.int .i64 0,.int .i64 0,.int .i64 0,.int .i64 0,.int .i64 0,.nils,.nils,.int .i64 0,.nils,.int .i64 0],.int .i64 2],[],[])) (.cond (decide (e0<t)) (.leaf (Exit.ret,[.agg [.int .i64 0,.int .i64 0,.int .i64 0,.int .i64 0,.int .i64 0,.nils,.nils,.int .i64 0,.nils,.int .i64 0],.int .i64 11],[],[])) (.cond (!vB c e2) (.leaf (Exit.ret,[.agg [.int .i64 0,.int .i64 0,.int .i64 0,.int .i64 0,.int .i64 0,.nils,.nils,.int .i64 0,.nils,.int .i64 0],.int .i64 2],[],[])) (.cond (decide (e1=1)) (.cond false (.leaf (Exit.ret,[.agg [.int .i64 0,.int .i64 0,.int .i64 0,.int .i64 0,.int .i64 0,.nils,.nils,.int .i64 0,.nils,.int .i64 0],.int .i64 4],[],[])) (.leaf (Exit.normal,[SV.ptr 3086 0,SV.ptr 4086 0,SV.ptr 5086 0,SV.fn (134:FuncId) [],.agg [.int .i64 t,.int .i64 c,.int .i64 h,.int .i64 o,.int .i64 p,.sl (Ty.pair tI (Ty.pair tI (Ty.pair tI tI))) es,.sl (Ty.sl tI) vs,.int .i64 n,.sl (Ty.pair tI (Ty.pair tI (Ty.pair tI Ty.bool))) ps,.int .i64 k]],[some (Ob.box [.int .i64 t,.int .i64 c,.int .i64 h,.int .i64 o,.int .i64 p,.sl tEl es,.sl tIs vs,.int .i64 n,.sl tPm ps,.int .i64 k]),some (Ob.box [.int .i64 e0,.int .i64 e1,.int .i64 e2,.int .i64 e3,.int .i64 e4,.int .i64 e5]),some (Ob.box [.int .i64 0,.int .i64 0,.int .i64 0,.int .i64 0,.int .i64 0,.nils,.nils,.int .i64 0,.nils,.int .i64 0])],[true,true,true]))) (.cond (decide (e1=2)) (.cond false (.leaf (Exit.ret,[.agg [.int .i64 0,.int .i64 0,.int .i64 0,.int .i64 0,.int .i64 0,.nils,.nils,.int .i64 0,.nils,.int .i64 0],.int .i64 4],[],[])) (.leaf (Exit.normal,[SV.ptr 3086 0,SV.ptr 4086 0,SV.ptr 5086 0,SV.fn (135:FuncId) [],.agg [.int .i64 t,.int .i64 c,.int .i64 h,.int .i64 o,.int .i64 p,.sl (Ty.pair tI (Ty.pair tI (Ty.pair tI tI))) es,.sl (Ty.sl tI) vs,.int .i64 n,.sl (Ty.pair tI (Ty.pair tI (Ty.pair tI Ty.bool))) ps,.int .i64 k]],[some (Ob.box [.int .i64 t,.int .i64 c,.int .i64 h,.int .i64 o,.int .i64 p,.sl tEl es,.sl tIs vs,.int .i64 n,.sl tPm ps,.int .i64 k]),some (Ob.box [.int .i64 e0,.int .i64 e1,.int .i64 e2,.int .i64 e3,.int .i64 e4,.int .i64 e5]),some (Ob.box [.int .i64 0,.int .i64 0,.int .i64 0,.int .i64 0,.int .i64 0,.nils,.nils,.int .i64 0,.nils,.int .i64 0])],[true,true,true]))) (.cond (decide (e1=3)) (.cond false (.leaf (Exit.ret,[.agg [.int .i64 0,.int .i64 0,.int .i64 0,.int .i64 0,.int .i64 0,.nils,.nils,.int .i64 0,.nils,.int .i64 0],.int .i64 4],[],[])) (.leaf (Exit.normal,[SV.ptr 3086 0,SV.ptr 4086 0,SV.ptr 5086 0,SV.fn (136:FuncId) [],.agg [.int .i64 t,.int .i64 c,.int .i64 h,.int .i64 o,.int .i64 p,.sl (Ty.pair tI (Ty.pair tI (Ty.pair tI tI))) es,.sl (Ty.sl tI) vs,.int .i64 n,.sl (Ty.pair tI (Ty.pair tI (Ty.pair tI Ty.bool))) ps,.int .i64 k]],[some (Ob.box [.int .i64 t,.int .i64 c,.int .i64 h,.int .i64 o,.int .i64 p,.sl tEl es,.sl tIs vs,.int .i64 n,.sl tPm ps,.int .i64 k]),some (Ob.box [.int .i64 e0,.int .i64 e1,.int .i64 e2,.int .i64 e3,.int .i64 e4,.int .i64 e5]),some (Ob.box [.int .i64 0,.int .i64 0,.int .i64 0,.int .i64 0,.int .i64 0,.nils,.nils,.int .i64 0,.nils,.int .i64 0])],[true,true,true]))) (.cond (decide (e1=4)) (.cond false (.leaf (Exit.ret,[.agg [.int .i64 0,.int .i64 0,.int .i64 0,.int .i64 0,.int .i64 0,.nils,.nils,.int .i64 0,.nils,.int .i64 0],.int .i64 4],[],[])) (.leaf (Exit.normal,[SV.ptr 3086 0,SV.ptr 4086 0,SV.ptr 5086 0,SV.fn (137:FuncId) [],.agg [.int .i64 t,.int .i64 c,.int .i64 h,.int .i64 o,.int .i64 p,.sl (Ty.pair tI (Ty.pair tI (Ty.pair tI tI))) es,.sl (Ty.sl tI) vs,.int .i64 n,.sl (Ty.pair tI (Ty.pair tI (Ty.pair tI Ty.bool))) ps,.int .i64 k]],[some (Ob.box [.int .i64 t,.int .i64 c,.int .i64 h,.int .i64 o,.int .i64 p,.sl tEl es,.sl tIs vs,.int .i64 n,.sl tPm ps,.int .i64 k]),some (Ob.box [.int .i64 e0,.int .i64 e1,.int .i64 e2,.int .i64 e3,.int .i64 e4,.int .i64 e5]),some (Ob.box [.int .i64 0,.int .i64 0,.int .i64 0,.int .i64 0,.int .i64 0,.nils,.nils,.int .i64 0,.nils,.int .i64 0])],[true,true,true]))) (.cond (decide (e1=5)) (.cond false (.leaf (Exit.ret,[.agg [.int .i64 0,.int .i64 0,.int .i64 0,.int .i64 0,.int .i64 0,.nils,.nils,.int .i64 0,.nils,.int .i64 0],.int .i64 4],[],[])) (.leaf (Exit.normal,[SV.ptr 3086 0,SV.ptr 4086 0,SV.ptr 5086 0,SV.fn (138:FuncId) [],.agg [.int .i64 t,.int .i64 c,.int .i64 h,.int .i64 o,.int .i64 p,.sl (Ty.pair tI (Ty.pair tI (Ty.pair tI tI))) es,.sl (Ty.sl tI) vs,.int .i64 n,.sl (Ty.pair tI (Ty.pair tI (Ty.pair tI Ty.bool))) ps,.int .i64 k]],[some (Ob.box [.int .i64 t,.int .i64 c,.int .i64 h,.int .i64 o,.int .i64 p,.sl tEl es,.sl tIs vs,.int .i64 n,.sl tPm ps,.int .i64 k]),some (Ob.box [.int .i64 e0,.int .i64 e1,.int .i64 e2,.int .i64 e3,.int .i64 e4,.int .i64 e5]),some (Ob.box [.int .i64 0,.int .i64 0,.int .i64 0,.int .i64 0,.int .i64 0,.nils,.nils,.int .i64 0,.nils,.int .i64 0])],[true,true,true]))) (.cond (decide (e1=6)) (.cond false (.leaf (Exit.ret,[.agg [.int .i64 0,.int .i64 0,.int .i64 0,.int .i64 0,.int .i64 0,.nils,.nils,.int .i64 0,.nils,.int .i64 0],.int .i64 4],[],[])) (.leaf (Exit.normal,[SV.ptr 3086 0,SV.ptr 4086 0,SV.ptr 5086 0,SV.fn (139:FuncId) [],.agg [.int .i64 t,.int .i64 c,.int .i64 h,.int .i64 o,.int .i64 p,.sl (Ty.pair tI (Ty.pair tI (Ty.pair tI tI))) es,.sl (Ty.sl tI) vs,.int .i64 n,.sl (Ty.pair tI (Ty.pair tI (Ty.pair tI Ty.bool))) ps,.int .i64 k]],[some (Ob.box [.int .i64 t,.int .i64 c,.int .i64 h,.int .i64 o,.int .i64 p,.sl tEl es,.sl tIs vs,.int .i64 n,.sl tPm ps,.int .i64 k]),some (Ob.box [.int .i64 e0,.int .i64 e1,.int .i64 e2,.int .i64 e3,.int .i64 e4,.int .i64 e5]),some (Ob.box [.int .i64 0,.int .i64 0,.int .i64 0,.int .i64 0,.int .i64 0,.nils,.nils,.int .i64 0,.nils,.int .i64 0])],[true,true,true]))) (.cond (decide (e1=7)) (.cond false (.leaf (Exit.ret,[.agg [.int .i64 0,.int .i64 0,.int .i64 0,.int .i64 0,.int .i64 0,.nils,.nils,.int .i64 0,.nils,.int .i64 0],.int .i64 4],[],[])) (.leaf (Exit.normal,[SV.ptr 3086 0,SV.ptr 4086 0,SV.ptr 5086 0,SV.fn (140:FuncId) [],.agg [.int .i64 t,.int .i64 c,.int .i64 h,.int .i64 o,.int .i64 p,.sl (Ty.pair tI (Ty.pair tI (Ty.pair tI tI))) es,.sl (Ty.sl tI) vs,.int .i64 n,.sl (Ty.pair tI (Ty.pair tI (Ty.pair tI Ty.bool))) ps,.int .i64 k]],[some (Ob.box [.int .i64 t,.int .i64 c,.int .i64 h,.int .i64 o,.int .i64 p,.sl tEl es,.sl tIs vs,.int .i64 n,.sl tPm ps,.int .i64 k]),some (Ob.box [.int .i64 e0,.int .i64 e1,.int .i64 e2,.int .i64 e3,.int .i64 e4,.int .i64 e5]),some (Ob.box [.int .i64 0,.int .i64 0,.int .i64 0,.int .i64 0,.int .i64 0,.nils,.nils,.int .i64 0,.nils,.int .i64 0])],[true,true,true]))) (.cond (decide (e1=8)) (.cond false (.leaf (Exit.ret,[.agg [.int .i64 0,.int .i64 0,.int .i64 0,.int .i64 0,.int .i64 0,.nils,.nils,.int .i64 0,.nils,.int .i64 0],.int .i64 4],[],[])) (.leaf (Exit.normal,[SV.ptr 3086 0,SV.ptr 4086 0,SV.ptr 5086 0,SV.fn (141:FuncId) [],.agg [.int .i64 t,.int .i64 c,.int .i64 h,.int .i64 o,.int .i64 p,.sl (Ty.pair tI (Ty.pair tI (Ty.pair tI tI))) es,.sl (Ty.sl tI) vs,.int .i64 n,.sl (Ty.pair tI (Ty.pair tI (Ty.pair tI Ty.bool))) ps,.int .i64 k]],[some (Ob.box [.int .i64 t,.int .i64 c,.int .i64 h,.int .i64 o,.int .i64 p,.sl tEl es,.sl tIs vs,.int .i64 n,.sl tPm ps,.int .i64 k]),some (Ob.box [.int .i64 e0,.int .i64 e1,.int .i64 e2,.int .i64 e3,.int .i64 e4,.int .i64 e5]),some (Ob.box [.int .i64 0,.int .i64 0,.int .i64 0,.int .i64 0,.int .i64 0,.nils,.nils,.int .i64 0,.nils,.int .i64 0])],[true,true,true]))) (.cond (decide (e1=9)) (.cond false (.leaf (Exit.ret,[.agg [.int .i64 0,.int .i64 0,.int .i64 0,.int .i64 0,.int .i64 0,.nils,.nils,.int .i64 0,.nils,.int .i64 0],.int .i64 4],[],[])) (.leaf (Exit.normal,[SV.ptr 3086 0,SV.ptr 4086 0,SV.ptr 5086 0,SV.fn (142:FuncId) [],.agg [.int .i64 t,.int .i64 c,.int .i64 h,.int .i64 o,.int .i64 p,.sl (Ty.pair tI (Ty.pair tI (Ty.pair tI tI))) es,.sl (Ty.sl tI) vs,.int .i64 n,.sl (Ty.pair tI (Ty.pair tI (Ty.pair tI Ty.bool))) ps,.int .i64 k]],[some (Ob.box [.int .i64 t,.int .i64 c,.int .i64 h,.int .i64 o,.int .i64 p,.sl tEl es,.sl tIs vs,.int .i64 n,.sl tPm ps,.int .i64 k]),some (Ob.box [.int .i64 e0,.int .i64 e1,.int .i64 e2,.int .i64 e3,.int .i64 e4,.int .i64 e5]),some (Ob.box [.int .i64 0,.int .i64 0,.int .i64 0,.int .i64 0,.int .i64 0,.nils,.nils,.int .i64 0,.nils,.int .i64 0])],[true,true,true]))) (.cond (decide (e1=10)) (.cond false (.leaf (Exit.ret,[.agg [.int .i64 0,.int .i64 0,.int .i64 0,.int .i64 0,.int .i64 0,.nils,.nils,.int .i64 0,.nils,.int .i64 0],.int .i64 4],[],[])) (.leaf (Exit.normal,[SV.ptr 3086 0,SV.ptr 4086 0,SV.ptr 5086 0,SV.fn (143:FuncId) [],.agg [.int .i64 t,.int .i64 c,.int .i64 h,.int .i64 o,.int .i64 p,.sl (Ty.pair tI (Ty.pair tI (Ty.pair tI tI))) es,.sl (Ty.sl tI) vs,.int .i64 n,.sl (Ty.pair tI (Ty.pair tI (Ty.pair tI Ty.bool))) ps,.int .i64 k]],[some (Ob.box [.int .i64 t,.int .i64 c,.int .i64 h,.int .i64 o,.int .i64 p,.sl tEl es,.sl tIs vs,.int .i64 n,.sl tPm ps,.int .i64 k]),some (Ob.box [.int .i64 e0,.int .i64 e1,.int .i64 e2,.int .i64 e3,.int .i64 e4,.int .i64 e5]),some (Ob.box [.int .i64 0,.int .i64 0,.int .i64 0,.int .i64 0,.int .i64 0,.nils,.nils,.int .i64 0,.nils,.int .i64 0])],[true,true,true]))) (.need (findI [((1:Int),(134:FuncId)),((2:Int),(135:FuncId)),((3:Int),(136:FuncId)),((4:Int),(137:FuncId)),((5:Int),(138:FuncId)),((6:Int),(139:FuncId)),((7:Int),(140:FuncId)),((8:Int),(141:FuncId)),((9:Int),(142:FuncId)),((10:Int),(143:FuncId))] e1=none) (.cond true (.leaf (Exit.ret,[.agg [.int .i64 0,.int .i64 0,.int .i64 0,.int .i64 0,.int .i64 0,.nils,.nils,.int .i64 0,.nils,.int .i64 0],.int .i64 4],[],[])) (.leaf (Exit.normal,[SV.ptr 3086 0,SV.ptr 4086 0,SV.ptr 5086 0,SV.any,.agg [.int .i64 t,.int .i64 c,.int .i64 h,.int .i64 o,.int .i64 p,.sl (Ty.pair tI (Ty.pair tI (Ty.pair tI tI))) es,.sl (Ty.sl tI) vs,.int .i64 n,.sl (Ty.pair tI (Ty.pair tI (Ty.pair tI Ty.bool))) ps,.int .i64 k]],[some (Ob.box [.int .i64 t,.int .i64 c,.int .i64 h,.int .i64 o,.int .i64 p,.sl tEl es,.sl tIs vs,.int .i64 n,.sl tPm ps,.int .i64 k]),some (Ob.box [.int .i64 e0,.int .i64 e1,.int .i64 e2,.int .i64 e3,.int .i64 e4,.int .i64 e5]),some (Ob.box [.int .i64 0,.int .i64 0,.int .i64 0,.int .i64 0,.int .i64 0,.nils,.nils,.int .i64 0,.nils,.int .i64 0])],[true,true,true])))))))))))))))):=by kernel_rfl
def csC(f:FuncId)(t c h o p:Int)(es:List E4)(vs:List (List Int))(n:Int)(ps:List Pm)(k:Int)(e0 e1 e2 e3 e4 e5:Int):St:=wZ [(2,.ptr 3086 0),(3,.ptr 4086 0),(4,.ptr 5086 0),(6,.fn f []),(43,.agg (siteR t c h o p vs n k 701 702))]
 [(4086,some (.box (entD e0 e1 e2 e3 e4 e5))),(5086,some (.box xS)),(701,some (.row 47 tEl es)),(702,some (.row 49 tPm ps))] [3086,4086,5086,701,702]
def kDC3(ns:List Nat)(e:Exit)(S:St)(K:Kn):Tree (Exit×List SV×List (Option Ob)×List Bool):=match e with
 |.normal=>obs [2,3,4,8,54] ns ns .normal S
 |_=>.fail 63
def kDC2(ns:List Nat)(e:Exit)(S:St)(K:Kn):Tree (Exit×List SV×List (Option Ob)×List Bool):=match e with
 |.normal=>jR (P:=P) [c_keepsX.gc] (fun _=>none) [] 86 1 (yR blk1) S K (kDC3 ns)
 |_=>.fail 61
def kDC1(ns:List Nat)(e:Exit)(S:St)(K:Kn):Tree (Exit×List SV×List (Option Ob)×List Bool):=match e with
 |.normal=>jR (P:=P) [] (fun _=>none) [] 86 0 rDo14 S K (kDC2 ns)
 |.ret=>obsT P 86 Tryz.f50 S fun r=>.leaf (.ret,r,[],[])
 |_=>.fail 62
def kDC(cx:List (GC P))(ns:List Nat)(S:St)(K:Kn):Tree (Exit×List SV×List (Option Ob)×List Bool):=jR (P:=P) cx (fun _=>none) [] 86 0 sDo11 S K (kDC1 ns)
theorem T_dC_install(t c h o p:Int)(es:List E4)(vs:List (List Int))(n:Int)(ps:List Pm)(k:Int)(e0 e1 e2 e3 e4 e5:Int):jQ (P:=P) [] 86 (vI vV) false ((vL vV).drop 2) (csC 134 t c h o p es vs n ps k e0 e1 e2 e3 e4 e5) (fun _=>none) [] (kDC [c_install.gc] [4086,5086,9086,701,702]) =
 Tree.cond (zAg es e3 != 0) (.leaf (Exit.ret,[.agg [.int .i64 0,.int .i64 0,.int .i64 0,.int .i64 0,.int .i64 0,.nils,.nils,.int .i64 0,.nils,.int .i64 0],.int .i64 (zAg es e3)],[],[])) (.need (zB (zAf es e3,vs,n)=0/\ps.length<=1000) (.leaf (Exit.normal,[SV.ptr 3086 0,SV.ptr 4086 0,SV.ptr 5086 0,SV.ptr 9086 0,.bool (jM (e0,c,h,o,p,(zAf es e3,vs,n),ps,k) e0)],[some (Ob.box [.int .i64 e0,.int .i64 e1,.int .i64 e2,.int .i64 e3,.int .i64 e4,.int .i64 e5]),some (Ob.box [.int .i64 0,.int .i64 0,.int .i64 0,.int .i64 0,.int .i64 0,.nils,.nils,.int .i64 0,.nils,.int .i64 0]),some (Ob.box [.int .i64 e0,.int .i64 c,.int .i64 h,.int .i64 o,.int .i64 p,.own 701,.sl tIs vs,.int .i64 n,.own 702,.int .i64 k]),some (.row 47 tEl (zAf es e3)),some (.row 49 tPm ps)],[true,true,true,true,true]))):=by kernel_rfl
theorem T_dC_test(t c h o p:Int)(es:List E4)(vs:List (List Int))(n:Int)(ps:List Pm)(k:Int)(e0 e1 e2 e3 e4 e5:Int):jQ (P:=P) [] 86 (vI vV) false ((vL vV).drop 2) (csC 135 t c h o p es vs n ps k e0 e1 e2 e3 e4 e5) (fun _=>none) [] (kDC [c_test.gc] [4086,5086,9086,701,702]) =
 Tree.cond (tstE es (e0,e1,e2,e3,e4,e5) != 0) (.leaf (Exit.ret,[.agg [.int .i64 0,.int .i64 0,.int .i64 0,.int .i64 0,.int .i64 0,.nils,.nils,.int .i64 0,.nils,.int .i64 0],.int .i64 (tstE es (e0,e1,e2,e3,e4,e5))],[],[])) (.need (zB (tstL es (e0,e1,e2,e3,e4,e5),vs,n)=0/\ps.length<=1000) (.leaf (Exit.normal,[SV.ptr 3086 0,SV.ptr 4086 0,SV.ptr 5086 0,SV.ptr 9086 0,.bool (jM (e0,c,h,o,p,(tstL es (e0,e1,e2,e3,e4,e5),vs,n),ps,k) e0)],[some (Ob.box [.int .i64 e0,.int .i64 e1,.int .i64 e2,.int .i64 e3,.int .i64 e4,.int .i64 e5]),some (Ob.box [.int .i64 0,.int .i64 0,.int .i64 0,.int .i64 0,.int .i64 0,.nils,.nils,.int .i64 0,.nils,.int .i64 0]),some (Ob.box [.int .i64 e0,.int .i64 c,.int .i64 h,.int .i64 o,.int .i64 p,.own 701,.sl tIs vs,.int .i64 n,.own 702,.int .i64 k]),some (.row 47 tEl (tstL es (e0,e1,e2,e3,e4,e5))),some (.row 49 tPm ps)],[true,true,true,true,true]))):=by kernel_rfl
theorem T_dC_fail(t c h o p:Int)(es:List E4)(vs:List (List Int))(n:Int)(ps:List Pm)(k:Int)(e0 e1 e2 e3 e4 e5:Int):jQ (P:=P) [] 86 (vI vV) false ((vL vV).drop 2) (csC 136 t c h o p es vs n ps k e0 e1 e2 e3 e4 e5) (fun _=>none) [] (kDC [c_fail.gc] [4086,5086,9086,701,702]) =
 Tree.cond (falE es e3 != 0) (.leaf (Exit.ret,[.agg [.int .i64 0,.int .i64 0,.int .i64 0,.int .i64 0,.int .i64 0,.nils,.nils,.int .i64 0,.nils,.int .i64 0],.int .i64 (falE es e3)],[],[])) (.need (zB (falL es e3,vs,n)=0/\ps.length<=1000) (.leaf (Exit.normal,[SV.ptr 3086 0,SV.ptr 4086 0,SV.ptr 5086 0,SV.ptr 9086 0,.bool (jM (e0,c,h,o,p,(falL es e3,vs,n),ps,k) e0)],[some (Ob.box [.int .i64 e0,.int .i64 e1,.int .i64 e2,.int .i64 e3,.int .i64 e4,.int .i64 e5]),some (Ob.box [.int .i64 0,.int .i64 0,.int .i64 0,.int .i64 0,.int .i64 0,.nils,.nils,.int .i64 0,.nils,.int .i64 0]),some (Ob.box [.int .i64 e0,.int .i64 c,.int .i64 h,.int .i64 o,.int .i64 p,.own 701,.sl tIs vs,.int .i64 n,.own 702,.int .i64 k]),some (.row 47 tEl (falL es e3)),some (.row 49 tPm ps)],[true,true,true,true,true]))):=by kernel_rfl
theorem T_dC_remove(t c h o p:Int)(es:List E4)(vs:List (List Int))(n:Int)(ps:List Pm)(k:Int)(e0 e1 e2 e3 e4 e5:Int):jQ (P:=P) [] 86 (vI vV) false ((vL vV).drop 2) (csC 137 t c h o p es vs n ps k e0 e1 e2 e3 e4 e5) (fun _=>none) [] (kDC [c_remove.gc] [4086,5086,9086,701,702]) =
 Tree.need (zB (pU es e3,vs,n)=0/\ps.length<=1000) (.cond (remE (t,c,h,o,p,(es,vs,n),ps,k) (e0,e1,e2,e3,e4,e5) != 0) (.leaf (Exit.ret,[.agg [.int .i64 0,.int .i64 0,.int .i64 0,.int .i64 0,.int .i64 0,.nils,.nils,.int .i64 0,.nils,.int .i64 0],.int .i64 (remE (t,c,h,o,p,(es,vs,n),ps,k) (e0,e1,e2,e3,e4,e5))],[],[])) (.need (zB (pU es e3,vs,n)=0/\ps.length<=1000) (.leaf (Exit.normal,[SV.ptr 3086 0,SV.ptr 4086 0,SV.ptr 5086 0,SV.ptr 9086 0,.bool (jM (e0,c,h,o,p,(pU es e3,vs,n),ps,k) e0)],[some (Ob.box [.int .i64 e0,.int .i64 e1,.int .i64 e2,.int .i64 e3,.int .i64 e4,.int .i64 e5]),some (Ob.box [.int .i64 0,.int .i64 0,.int .i64 0,.int .i64 0,.int .i64 0,.nils,.nils,.int .i64 0,.nils,.int .i64 0]),some (Ob.box [.int .i64 e0,.int .i64 c,.int .i64 h,.int .i64 o,.int .i64 p,.own 701,.sl tIs vs,.int .i64 n,.own 702,.int .i64 k]),some (.row 47 tEl (pU es e3)),some (.row 49 tPm ps)],[true,true,true,true,true])))):=by kernel_rfl
theorem T_dC_press(t c h o p:Int)(es:List E4)(vs:List (List Int))(n:Int)(ps:List Pm)(k:Int)(e0 e1 e2 e3 e4 e5:Int):jQ (P:=P) [] 86 (vI vV) false ((vL vV).drop 2) (csC 138 t c h o p es vs n ps k e0 e1 e2 e3 e4 e5) (fun _=>none) [] (kDC [c_press.gc] [4086,5086,9086,701,702]) =
 Tree.need (zB (es,vs,n)=0/\ps.length<=1000) (.cond (kN (t,c,h,o,p,(es,vs,n),ps,k) (e0,e1,e2,e3,e4,e5) != 0) (.leaf (Exit.ret,[.agg [.int .i64 0,.int .i64 0,.int .i64 0,.int .i64 0,.int .i64 0,.nils,.nils,.int .i64 0,.nils,.int .i64 0],.int .i64 (kN (t,c,h,o,p,(es,vs,n),ps,k) (e0,e1,e2,e3,e4,e5))],[],[])) (.need (zB (es,vs,n)=0/\ps.length<=1000) (.leaf (Exit.normal,[SV.ptr 3086 0,SV.ptr 4086 0,SV.ptr 5086 0,SV.ptr 9086 0,.bool (jM (e0,c,h,o,prsN (t,c,h,o,p,(es,vs,n),ps,k) (e0,e1,e2,e3,e4,e5),(es,vs,n),ps,k) e0)],[some (Ob.box [.int .i64 e0,.int .i64 e1,.int .i64 e2,.int .i64 e3,.int .i64 e4,.int .i64 e5]),some (Ob.box [.int .i64 0,.int .i64 0,.int .i64 0,.int .i64 0,.int .i64 0,.nils,.nils,.int .i64 0,.nils,.int .i64 0]),some (Ob.box [.int .i64 e0,.int .i64 c,.int .i64 h,.int .i64 o,.int .i64 (prsN (t,c,h,o,p,(es,vs,n),ps,k) (e0,e1,e2,e3,e4,e5)),.own 701,.sl tIs vs,.int .i64 n,.own 702,.int .i64 k]),some (.row 47 tEl es),some (.row 49 tPm ps)],[true,true,true,true,true])))):=by kernel_rfl
theorem T_dC_offer(t c h o p:Int)(es:List E4)(vs:List (List Int))(n:Int)(ps:List Pm)(k:Int)(e0 e1 e2 e3 e4 e5:Int):jQ (P:=P) [] 86 (vI vV) false ((vL vV).drop 2) (csC 139 t c h o p es vs n ps k e0 e1 e2 e3 e4 e5) (fun _=>none) [] (kDC [c_offerR.gc] [4086,5086,9086,701,702]) =
 Tree.cond (pL (t,c,h,o,p,(es,vs,n),ps,k) (e0,e1,e2,e3,e4,e5) != 0) (.leaf (Exit.ret,[.agg [.int .i64 0,.int .i64 0,.int .i64 0,.int .i64 0,.int .i64 0,.nils,.nils,.int .i64 0,.nils,.int .i64 0],.int .i64 (pL (t,c,h,o,p,(es,vs,n),ps,k) (e0,e1,e2,e3,e4,e5))],[],[])) (.need (zB (es,vs,n)=0/\ps.length<=1000) (.leaf (Exit.normal,[SV.ptr 3086 0,SV.ptr 4086 0,SV.ptr 5086 0,SV.ptr 9086 0,.bool (jM (e0,c,h,gX (t,c,h,o,p,(es,vs,n),ps,k) (e0,e1,e2,e3,e4,e5),p,(es,vs,n),ps,k) e0)],[some (Ob.box [.int .i64 e0,.int .i64 e1,.int .i64 e2,.int .i64 e3,.int .i64 e4,.int .i64 e5]),some (Ob.box [.int .i64 0,.int .i64 0,.int .i64 0,.int .i64 0,.int .i64 0,.nils,.nils,.int .i64 0,.nils,.int .i64 0]),some (Ob.box [.int .i64 e0,.int .i64 c,.int .i64 h,.int .i64 (gX (t,c,h,o,p,(es,vs,n),ps,k) (e0,e1,e2,e3,e4,e5)),.int .i64 p,.own 701,.sl tIs vs,.int .i64 n,.own 702,.int .i64 k]),some (.row 47 tEl es),some (.row 49 tPm ps)],[true,true,true,true,true]))):=by kernel_rfl
theorem T_dC_take(t c h o p:Int)(es:List E4)(vs:List (List Int))(n:Int)(ps:List Pm)(k:Int)(e0 e1 e2 e3 e4 e5:Int):jQ (P:=P) [] 86 (vI vV) false ((vL vV).drop 2) (csC 140 t c h o p es vs n ps k e0 e1 e2 e3 e4 e5) (fun _=>none) [] (kDC [c_takeR.gc] [4086,5086,9086,701,702]) =
 Tree.cond (gO (t,c,h,o,p,(es,vs,n),ps,k) (e0,e1,e2,e3,e4,e5) != 0) (.leaf (Exit.ret,[.agg [.int .i64 0,.int .i64 0,.int .i64 0,.int .i64 0,.int .i64 0,.nils,.nils,.int .i64 0,.nils,.int .i64 0],.int .i64 (gO (t,c,h,o,p,(es,vs,n),ps,k) (e0,e1,e2,e3,e4,e5))],[],[])) (.need (zB (es,vs,n)=0/\ps.length<=1000) (.leaf (Exit.normal,[SV.ptr 3086 0,SV.ptr 4086 0,SV.ptr 5086 0,SV.ptr 9086 0,.bool (jM (e0,c,fK (t,c,h,o,p,(es,vs,n),ps,k) (e0,e1,e2,e3,e4,e5),fJ (t,c,h,o,p,(es,vs,n),ps,k) (e0,e1,e2,e3,e4,e5),p,(es,vs,n),ps,k) e0)],[some (Ob.box [.int .i64 e0,.int .i64 e1,.int .i64 e2,.int .i64 e3,.int .i64 e4,.int .i64 e5]),some (Ob.box [.int .i64 0,.int .i64 0,.int .i64 0,.int .i64 0,.int .i64 0,.nils,.nils,.int .i64 0,.nils,.int .i64 0]),some (Ob.box [.int .i64 e0,.int .i64 c,.int .i64 (fK (t,c,h,o,p,(es,vs,n),ps,k) (e0,e1,e2,e3,e4,e5)),.int .i64 (fJ (t,c,h,o,p,(es,vs,n),ps,k) (e0,e1,e2,e3,e4,e5)),.int .i64 p,.own 701,.sl tIs vs,.int .i64 n,.own 702,.int .i64 k]),some (.row 47 tEl es),some (.row 49 tPm ps)],[true,true,true,true,true]))):=by kernel_rfl
theorem T_dC_allow(t c h o p:Int)(es:List E4)(vs:List (List Int))(n:Int)(ps:List Pm)(k:Int)(e0 e1 e2 e3 e4 e5:Int):jQ (P:=P) [] 86 (vI vV) false ((vL vV).drop 2) (csC 141 t c h o p es vs n ps k e0 e1 e2 e3 e4 e5) (fun _=>none) [] (kDC [c_allow.gc] [4086,5086,9086,47086,47087]) =
 Tree.need (ps.length<=1000) (.cond (vM (t,c,h,o,p,(es,vs,n),ps,k) (e0,e1,e2,e3,e4,e5) != 0) (.leaf (Exit.ret,[.agg [.int .i64 0,.int .i64 0,.int .i64 0,.int .i64 0,.int .i64 0,.nils,.nils,.int .i64 0,.nils,.int .i64 0],.int .i64 (vM (t,c,h,o,p,(es,vs,n),ps,k) (e0,e1,e2,e3,e4,e5))],[],[])) (.need (zB (es,vs,n)=0/\List.length (xH (t,c,h,o,p,(es,vs,n),ps,k) (e0,e1,e2,e3,e4,e5))<=1000) (.leaf (Exit.normal,[SV.ptr 3086 0,SV.ptr 4086 0,SV.ptr 5086 0,SV.ptr 9086 0,.bool (jM (e0,c,h,o,p,(es,vs,n),xH (t,c,h,o,p,(es,vs,n),ps,k) (e0,e1,e2,e3,e4,e5),k) e0)],[some (Ob.box [.int .i64 e0,.int .i64 e1,.int .i64 e2,.int .i64 e3,.int .i64 e4,.int .i64 e5]),some (Ob.box [.int .i64 0,.int .i64 0,.int .i64 0,.int .i64 0,.int .i64 0,.nils,.nils,.int .i64 0,.nils,.int .i64 0]),some (Ob.box [.int .i64 e0,.int .i64 c,.int .i64 h,.int .i64 o,.int .i64 p,.own 47086,.sl tIs vs,.int .i64 n,.own 47087,.int .i64 k]),some (.row 47 tEl es),some (.row 49 tPm (xH (t,c,h,o,p,(es,vs,n),ps,k) (e0,e1,e2,e3,e4,e5)))],[true,true,true,true,true])))):=by kernel_rfl
theorem T_dC_start(t c h o p:Int)(es:List E4)(vs:List (List Int))(n:Int)(ps:List Pm)(k:Int)(e0 e1 e2 e3 e4 e5:Int):jQ (P:=P) [] 86 (vI vV) false ((vL vV).drop 2) (csC 142 t c h o p es vs n ps k e0 e1 e2 e3 e4 e5) (fun _=>none) [] (kDC [c_start.gc] [4086,5086,9086,701,702]) =
 Tree.need ((ps.length:Int)<2 ^ 62/\zB (es,vs,n)=0) (.cond (staE (t,c,h,o,p,(es,vs,n),ps,k) (e0,e1,e2,e3,e4,e5) != 0) (.leaf (Exit.ret,[.agg [.int .i64 0,.int .i64 0,.int .i64 0,.int .i64 0,.int .i64 0,.nils,.nils,.int .i64 0,.nils,.int .i64 0],.int .i64 (staE (t,c,h,o,p,(es,vs,n),ps,k) (e0,e1,e2,e3,e4,e5))],[],[])) (.need (zB (es,vs,n)=0/\List.length (staL (t,c,h,o,p,(es,vs,n),ps,k) (e0,e1,e2,e3,e4,e5))<=1000) (.leaf (Exit.normal,[SV.ptr 3086 0,SV.ptr 4086 0,SV.ptr 5086 0,SV.ptr 9086 0,.bool (jM (e0,c,h,o,p,(es,vs,n),staL (t,c,h,o,p,(es,vs,n),ps,k) (e0,e1,e2,e3,e4,e5),k) e0)],[some (Ob.box [.int .i64 e0,.int .i64 e1,.int .i64 e2,.int .i64 e3,.int .i64 e4,.int .i64 e5]),some (Ob.box [.int .i64 0,.int .i64 0,.int .i64 0,.int .i64 0,.int .i64 0,.nils,.nils,.int .i64 0,.nils,.int .i64 0]),some (Ob.box [.int .i64 e0,.int .i64 c,.int .i64 h,.int .i64 o,.int .i64 p,.own 701,.sl tIs vs,.int .i64 n,.own 702,.int .i64 k]),some (.row 47 tEl es),some (.row 49 tPm (staL (t,c,h,o,p,(es,vs,n),ps,k) (e0,e1,e2,e3,e4,e5)))],[true,true,true,true,true])))):=by kernel_rfl
theorem T_dC_stop(t c h o p:Int)(es:List E4)(vs:List (List Int))(n:Int)(ps:List Pm)(k:Int)(e0 e1 e2 e3 e4 e5:Int):jQ (P:=P) [] 86 (vI vV) false ((vL vV).drop 2) (csC 143 t c h o p es vs n ps k e0 e1 e2 e3 e4 e5) (fun _=>none) [] (kDC [c_stop.gc] [4086,5086,9086,701,702]) =
 Tree.need ((ps.length:Int)<2 ^ 62) (.cond (stoE (t,c,h,o,p,(es,vs,n),ps,k) (e0,e1,e2,e3,e4,e5) != 0) (.leaf (Exit.ret,[.agg [.int .i64 0,.int .i64 0,.int .i64 0,.int .i64 0,.int .i64 0,.nils,.nils,.int .i64 0,.nils,.int .i64 0],.int .i64 (stoE (t,c,h,o,p,(es,vs,n),ps,k) (e0,e1,e2,e3,e4,e5))],[],[])) (.need (zB (es,vs,n)=0/\List.length (zAc (t,c,h,o,p,(es,vs,n),ps,k) (e0,e1,e2,e3,e4,e5))<=1000) (.leaf (Exit.normal,[SV.ptr 3086 0,SV.ptr 4086 0,SV.ptr 5086 0,SV.ptr 9086 0,.bool (jM (e0,c,h,o,p,(es,vs,n),zAc (t,c,h,o,p,(es,vs,n),ps,k) (e0,e1,e2,e3,e4,e5),k) e0)],[some (Ob.box [.int .i64 e0,.int .i64 e1,.int .i64 e2,.int .i64 e3,.int .i64 e4,.int .i64 e5]),some (Ob.box [.int .i64 0,.int .i64 0,.int .i64 0,.int .i64 0,.int .i64 0,.nils,.nils,.int .i64 0,.nils,.int .i64 0]),some (Ob.box [.int .i64 e0,.int .i64 c,.int .i64 h,.int .i64 o,.int .i64 p,.own 701,.sl tIs vs,.int .i64 n,.own 702,.int .i64 k]),some (.row 47 tEl es),some (.row 49 tPm (zAc (t,c,h,o,p,(es,vs,n),ps,k) (e0,e1,e2,e3,e4,e5)))],[true,true,true,true,true])))):=by kernel_rfl
def csD(b:Bool)(t c h o p:Int)(es:List E4)(vs:List (List Int))(n:Int)(ps:List Pm)(k:Int)(t' c' h' o' p' : Int)(es' : List E4)(vs' : List (List Int))(n' : Int)(ps' : List Pm)(k' : Int)(e0 e1 e2 e3 e4 e5:Int):St:=wZ [(2,.ptr 3086 0),(3,.ptr 4086 0),(4,.ptr 5086 0),(8,.ptr 9086 0),(54,.bool b)]
 [(3086,some (.box (fR t c h o p es vs n ps k))),(4086,some (.box (entD e0 e1 e2 e3 e4 e5))),(5086,some (.box xS)),(9086,some (.box (siteM t' c' h' o' p' n' k' 701 702 703))),(701,some (.frz tEl es')),(702,some (.frz tIs vs')),(703,some (.frz tPm ps'))] [3086,4086,5086,9086,701,702,703]
def kDD(e:Exit)(S:St)(K:Kn):Tree (Exit×List SV):=match e with
 |.normal=>jR (P:=P) [] (fun _=>none) [] 86 0 tDo22 S K (fun e S _=>obsT P 86 Tryz.f50 S fun r=>.leaf (e,r))
 |_=>.fail 64
theorem T_dD(b:Bool)(t c h o p:Int)(es:List E4)(vs:List (List Int))(n:Int)(ps:List Pm)(k:Int)(t' c' h' o' p' : Int)(es' : List E4)(vs' : List (List Int))(n' : Int)(ps' : List Pm)(k' : Int)(e0 e1 e2 e3 e4 e5:Int):jR (P:=P) [c_openS.gc,c_broken.gc] (fun _=>none) [] 86 1 (vJ blk1) (csD b t c h o p es vs n ps k t' c' h' o' p' es' vs' n' ps' k' e0 e1 e2 e3 e4 e5) (fun _=>none) kDD =
 Tree.cond b (.leaf (Exit.ret,[.agg [.int .i64 t',.int .i64 c',.int .i64 h',.int .i64 o',.int .i64 p',.own 701,.own 702,.int .i64 n',.own 703,.int .i64 (-1:Int)],.int .i64 0])) (.cond (k==(-1:Int)) (.need (zB (es,vs,n)=0) (.cond (xF (es,vs,n) t e0 p).2 (.need (ps.length<=1000) (.cond (wK (t,c,h,o,p,(es,vs,n),ps,k)) (.leaf (Exit.ret,[.agg [.int .i64 t',.int .i64 c',.int .i64 h',.int .i64 o',.int .i64 p',.own 701,.own 702,.int .i64 n',.own 703,.int .i64 (xF (es,vs,n) t e0 p).1],.int .i64 0])) (.leaf (Exit.ret,[.agg [.int .i64 t',.int .i64 c',.int .i64 h',.int .i64 o',.int .i64 p',.own 701,.own 702,.int .i64 n',.own 703,.int .i64 e0],.int .i64 0])))) (.leaf (Exit.ret,[.agg [.int .i64 t',.int .i64 c',.int .i64 h',.int .i64 o',.int .i64 p',.own 701,.own 702,.int .i64 n',.own 703,.int .i64 e0],.int .i64 0])))) (.leaf (Exit.ret,[.agg [.int .i64 t',.int .i64 c',.int .i64 h',.int .i64 o',.int .i64 p',.own 701,.own 702,.int .i64 n',.own 703,.int .i64 k'],.int .i64 0]))):=by kernel_rfl
theorem xC{β:Type}{Q:β->Prop}{t t' : Tree β}(h:t=t') (h' : t'.holds Q):t.holds Q:=h ▸ h'
abbrev siteRs(s:zE)(a b:Nat):List SV:=siteR s.1 s.2.1 s.2.2.1 s.2.2.2.1 s.2.2.2.2.1 s.2.2.2.2.2.1.2.1 s.2.2.2.2.2.1.2.2 s.2.2.2.2.2.2.2 a b
abbrev entDs(e:zN):List SV:=entD e.1 e.2.1 e.2.2.1 e.2.2.2.1 e.2.2.2.2.1 e.2.2.2.2.2
def obsDC(a b:Nat)(s' : zE)(e:zN):Exit×List SV×List (Option Ob)×List Bool :=
 (.normal,[.ptr 3086 0,.ptr 4086 0,.ptr 5086 0,.ptr 9086 0,.bool (jM s' e.1)],[some (.box (entDs e)),some (.box xS),some (.box (siteRs s' a b)),some (.row 47 tEl s'.2.2.2.2.2.1.1),some (.row 49 tPm s'.2.2.2.2.2.2.1)],List.replicate 5 true)
def QC(a b:Nat)(s:zE)(e:zN)(x:Exit×List SV×List (Option Ob)×List Bool):Prop :=
 (jJ s e≠0/\x=(.ret,[.agg xS,.int .i64 (jJ s e)],[],[]))\/(jJ s e=0/\x=obsDC a b (fL (zK s e) e.1) e)
theorem QC_bad{a b:Nat}{s:zE}{e:zN}{m:Int}(h:jJ s e=m) (hm:(m != 0)=true):QC a b s e (.ret,[.agg xS,.int .i64 m],[],[]):=.inl ⟨by rw[h];exact zAi hm,by rw[h]⟩
theorem fF{a b:Nat}{s:zE}{e:zN}{m:Int}{s' : zE}(h:jJ s e=m) (hm:(m != 0)=false) (hs:zK s e=s'):QC a b s e (obsDC a b (fL s' e.1) e):=.inr ⟨by rw[h];exact wF hm,by rw[hs]⟩
def ActC(f:FuncId)(s:zE)(e:zN):Prop:=∃ (cx:List (GC P)) (a b:Nat),(jQ (P:=P) [] 86 (vI vV) false ((vL vV).drop 2) (csC f s.1 s.2.1 s.2.2.1 s.2.2.2.1 s.2.2.2.2.1 s.2.2.2.2.2.1.1 s.2.2.2.2.2.1.2.1 s.2.2.2.2.2.1.2.2 s.2.2.2.2.2.2.1 s.2.2.2.2.2.2.2 e.1 e.2.1 e.2.2.1 e.2.2.2.1 e.2.2.2.2.1 e.2.2.2.2.2) (fun _=>none) [] (kDC cx [4086,5086,9086,a,b])).holds (QC a b s e)
set_option maxRecDepth 100000 in
theorem dC_install{t c h o p:Int}{es:List E4}{vs:List (List Int)}{n:Int}{ps:List Pm}{k:Int}{e0 e1 e2 e3 e4 e5:Int}(hs:sOk (t,c,h,o,p,(es,vs,n),ps,k)) (hh:zB (es,vs,n)=0) (hl9:ps.length<=900) (hw:wi e0 0 1099511627776=true) (he:e1=1):ActC 134 (t,c,h,o,p,(es,vs,n),ps,k) (e0,e1,e2,e3,e4,e5):=by
 have hl:ps.length<=1000:=by omega
 have h62:(ps.length:Int)<2 ^ 62:=by omega
 have h2:jJ (t,c,h,o,p,(es,vs,n),ps,k) (e0,e1,e2,e3,e4,e5)=zAg es e3:=by unfold jJ;dsimp only;rw[if_pos he]
 have h3:zK (t,c,h,o,p,(es,vs,n),ps,k) (e0,e1,e2,e3,e4,e5)=setE (t,c,h,o,p,(es,vs,n),ps,k) (zAf es e3):=by unfold zK;dsimp only;rw[if_pos he]
 refine⟨[c_install.gc],701,702,?_⟩
 have hT:=T_dC_install t c h o p es vs n ps k e0 e1 e2 e3 e4 e5
 dsimp only
 rw[hT]
 exact⟨fun d=>QC_bad h2 d,fun d=>⟨⟨insL_h hh,hl⟩,fF h2 d h3⟩⟩
set_option maxRecDepth 100000 in
theorem dC_test{t c h o p:Int}{es:List E4}{vs:List (List Int)}{n:Int}{ps:List Pm}{k:Int}{e0 e1 e2 e3 e4 e5:Int}(hs:sOk (t,c,h,o,p,(es,vs,n),ps,k)) (hh:zB (es,vs,n)=0) (hl9:ps.length<=900) (hw:wi e0 0 1099511627776=true) (he:e1=2):ActC 135 (t,c,h,o,p,(es,vs,n),ps,k) (e0,e1,e2,e3,e4,e5):=by
 have hl:ps.length<=1000:=by omega
 have h62:(ps.length:Int)<2 ^ 62:=by omega
 have h2:jJ (t,c,h,o,p,(es,vs,n),ps,k) (e0,e1,e2,e3,e4,e5)=tstE es (e0,e1,e2,e3,e4,e5):=by unfold jJ;dsimp only;rw[if_neg (show ¬ e1=1 by omega),if_pos he]
 have h3:zK (t,c,h,o,p,(es,vs,n),ps,k) (e0,e1,e2,e3,e4,e5)=setE (t,c,h,o,p,(es,vs,n),ps,k) (tstL es (e0,e1,e2,e3,e4,e5)):=by unfold zK;dsimp only;rw[if_neg (show ¬ e1=1 by omega),if_pos he]
 refine⟨[c_test.gc],701,702,?_⟩
 have hT:=T_dC_test t c h o p es vs n ps k e0 e1 e2 e3 e4 e5
 dsimp only
 rw[hT]
 exact⟨fun d=>QC_bad h2 d,fun d=>⟨⟨tstL_h hh hw,hl⟩,fF h2 d h3⟩⟩
set_option maxRecDepth 100000 in
theorem dC_fail{t c h o p:Int}{es:List E4}{vs:List (List Int)}{n:Int}{ps:List Pm}{k:Int}{e0 e1 e2 e3 e4 e5:Int}(hs:sOk (t,c,h,o,p,(es,vs,n),ps,k)) (hh:zB (es,vs,n)=0) (hl9:ps.length<=900) (hw:wi e0 0 1099511627776=true) (he:e1=3):ActC 136 (t,c,h,o,p,(es,vs,n),ps,k) (e0,e1,e2,e3,e4,e5):=by
 have hl:ps.length<=1000:=by omega
 have h62:(ps.length:Int)<2 ^ 62:=by omega
 have h2:jJ (t,c,h,o,p,(es,vs,n),ps,k) (e0,e1,e2,e3,e4,e5)=falE es e3:=by unfold jJ;dsimp only;rw[if_neg (show ¬ e1=1 by omega),if_neg (show ¬ e1=2 by omega),if_pos he]
 have h3:zK (t,c,h,o,p,(es,vs,n),ps,k) (e0,e1,e2,e3,e4,e5)=setE (t,c,h,o,p,(es,vs,n),ps,k) (falL es e3):=by unfold zK;dsimp only;rw[if_neg (show ¬ e1=1 by omega),if_neg (show ¬ e1=2 by omega),if_pos he]
 refine⟨[c_fail.gc],701,702,?_⟩
 have hT:=T_dC_fail t c h o p es vs n ps k e0 e1 e2 e3 e4 e5
 dsimp only
 rw[hT]
 exact⟨fun d=>QC_bad h2 d,fun d=>⟨⟨falL_h hh,hl⟩,fF h2 d h3⟩⟩
set_option maxRecDepth 100000 in
theorem dC_remove{t c h o p:Int}{es:List E4}{vs:List (List Int)}{n:Int}{ps:List Pm}{k:Int}{e0 e1 e2 e3 e4 e5:Int}(hs:sOk (t,c,h,o,p,(es,vs,n),ps,k)) (hh:zB (es,vs,n)=0) (hl9:ps.length<=900) (hw:wi e0 0 1099511627776=true) (he:e1=4):ActC 137 (t,c,h,o,p,(es,vs,n),ps,k) (e0,e1,e2,e3,e4,e5):=by
 have hl:ps.length<=1000:=by omega
 have h62:(ps.length:Int)<2 ^ 62:=by omega
 have h2:jJ (t,c,h,o,p,(es,vs,n),ps,k) (e0,e1,e2,e3,e4,e5)=remE (t,c,h,o,p,(es,vs,n),ps,k) (e0,e1,e2,e3,e4,e5):=by unfold jJ;dsimp only;rw[if_neg (show ¬ e1=1 by omega),if_neg (show ¬ e1=2 by omega),if_neg (show ¬ e1=3 by omega),if_pos he]
 have h3:zK (t,c,h,o,p,(es,vs,n),ps,k) (e0,e1,e2,e3,e4,e5)=setE (t,c,h,o,p,(es,vs,n),ps,k) (pU es e3):=by unfold zK;dsimp only;rw[if_neg (show ¬ e1=1 by omega),if_neg (show ¬ e1=2 by omega),if_neg (show ¬ e1=3 by omega),if_pos he]
 refine⟨[c_remove.gc],701,702,?_⟩
 have hT:=T_dC_remove t c h o p es vs n ps k e0 e1 e2 e3 e4 e5
 dsimp only
 rw[hT]
 exact⟨⟨remL_h hh,hl⟩,⟨fun d=>QC_bad h2 d,fun d=>⟨⟨remL_h hh,hl⟩,fF h2 d h3⟩⟩⟩
set_option maxRecDepth 100000 in
theorem dC_press{t c h o p:Int}{es:List E4}{vs:List (List Int)}{n:Int}{ps:List Pm}{k:Int}{e0 e1 e2 e3 e4 e5:Int}(hs:sOk (t,c,h,o,p,(es,vs,n),ps,k)) (hh:zB (es,vs,n)=0) (hl9:ps.length<=900) (hw:wi e0 0 1099511627776=true) (he:e1=5):ActC 138 (t,c,h,o,p,(es,vs,n),ps,k) (e0,e1,e2,e3,e4,e5):=by
 have hl:ps.length<=1000:=by omega
 have h62:(ps.length:Int)<2 ^ 62:=by omega
 have h2:jJ (t,c,h,o,p,(es,vs,n),ps,k) (e0,e1,e2,e3,e4,e5)=kN (t,c,h,o,p,(es,vs,n),ps,k) (e0,e1,e2,e3,e4,e5):=by unfold jJ;dsimp only;rw[if_neg (show ¬ e1=1 by omega),if_neg (show ¬ e1=2 by omega),if_neg (show ¬ e1=3 by omega),if_neg (show ¬ e1=4 by omega),if_pos he]
 have h3:zK (t,c,h,o,p,(es,vs,n),ps,k) (e0,e1,e2,e3,e4,e5)=setP (t,c,h,o,p,(es,vs,n),ps,k) (prsN (t,c,h,o,p,(es,vs,n),ps,k) (e0,e1,e2,e3,e4,e5)):=by unfold zK;dsimp only;rw[if_neg (show ¬ e1=1 by omega),if_neg (show ¬ e1=2 by omega),if_neg (show ¬ e1=3 by omega),if_neg (show ¬ e1=4 by omega),if_pos he]
 refine⟨[c_press.gc],701,702,?_⟩
 have hT:=T_dC_press t c h o p es vs n ps k e0 e1 e2 e3 e4 e5
 dsimp only
 rw[hT]
 exact⟨⟨hh,hl⟩,⟨fun d=>QC_bad h2 d,fun d=>⟨⟨hh,hl⟩,fF h2 d h3⟩⟩⟩
set_option maxRecDepth 100000 in
theorem dC_offer{t c h o p:Int}{es:List E4}{vs:List (List Int)}{n:Int}{ps:List Pm}{k:Int}{e0 e1 e2 e3 e4 e5:Int}(hs:sOk (t,c,h,o,p,(es,vs,n),ps,k)) (hh:zB (es,vs,n)=0) (hl9:ps.length<=900) (hw:wi e0 0 1099511627776=true) (he:e1=6):ActC 139 (t,c,h,o,p,(es,vs,n),ps,k) (e0,e1,e2,e3,e4,e5):=by
 have hl:ps.length<=1000:=by omega
 have h62:(ps.length:Int)<2 ^ 62:=by omega
 have h2:jJ (t,c,h,o,p,(es,vs,n),ps,k) (e0,e1,e2,e3,e4,e5)=pL (t,c,h,o,p,(es,vs,n),ps,k) (e0,e1,e2,e3,e4,e5):=by unfold jJ;dsimp only;rw[if_neg (show ¬ e1=1 by omega),if_neg (show ¬ e1=2 by omega),if_neg (show ¬ e1=3 by omega),if_neg (show ¬ e1=4 by omega),if_neg (show ¬ e1=5 by omega),if_pos he]
 have h3:zK (t,c,h,o,p,(es,vs,n),ps,k) (e0,e1,e2,e3,e4,e5)=setC (t,c,h,o,p,(es,vs,n),ps,k) h (gX (t,c,h,o,p,(es,vs,n),ps,k) (e0,e1,e2,e3,e4,e5)):=by unfold zK;dsimp only;rw[if_neg (show ¬ e1=1 by omega),if_neg (show ¬ e1=2 by omega),if_neg (show ¬ e1=3 by omega),if_neg (show ¬ e1=4 by omega),if_neg (show ¬ e1=5 by omega),if_pos he]
 refine⟨[c_offerR.gc],701,702,?_⟩
 have hT:=T_dC_offer t c h o p es vs n ps k e0 e1 e2 e3 e4 e5
 dsimp only
 rw[hT]
 exact⟨fun d=>QC_bad h2 d,fun d=>⟨⟨hh,hl⟩,fF h2 d h3⟩⟩
set_option maxRecDepth 100000 in
theorem dC_take{t c h o p:Int}{es:List E4}{vs:List (List Int)}{n:Int}{ps:List Pm}{k:Int}{e0 e1 e2 e3 e4 e5:Int}(hs:sOk (t,c,h,o,p,(es,vs,n),ps,k)) (hh:zB (es,vs,n)=0) (hl9:ps.length<=900) (hw:wi e0 0 1099511627776=true) (he:e1=7):ActC 140 (t,c,h,o,p,(es,vs,n),ps,k) (e0,e1,e2,e3,e4,e5):=by
 have hl:ps.length<=1000:=by omega
 have h62:(ps.length:Int)<2 ^ 62:=by omega
 have h2:jJ (t,c,h,o,p,(es,vs,n),ps,k) (e0,e1,e2,e3,e4,e5)=gO (t,c,h,o,p,(es,vs,n),ps,k) (e0,e1,e2,e3,e4,e5):=by unfold jJ;dsimp only;rw[if_neg (show ¬ e1=1 by omega),if_neg (show ¬ e1=2 by omega),if_neg (show ¬ e1=3 by omega),if_neg (show ¬ e1=4 by omega),if_neg (show ¬ e1=5 by omega),if_neg (show ¬ e1=6 by omega),if_pos he]
 have h3:zK (t,c,h,o,p,(es,vs,n),ps,k) (e0,e1,e2,e3,e4,e5)=setC (t,c,h,o,p,(es,vs,n),ps,k) (fK (t,c,h,o,p,(es,vs,n),ps,k) (e0,e1,e2,e3,e4,e5)) (fJ (t,c,h,o,p,(es,vs,n),ps,k) (e0,e1,e2,e3,e4,e5)):=by unfold zK;dsimp only;rw[if_neg (show ¬ e1=1 by omega),if_neg (show ¬ e1=2 by omega),if_neg (show ¬ e1=3 by omega),if_neg (show ¬ e1=4 by omega),if_neg (show ¬ e1=5 by omega),if_neg (show ¬ e1=6 by omega),if_pos he]
 refine⟨[c_takeR.gc],701,702,?_⟩
 have hT:=T_dC_take t c h o p es vs n ps k e0 e1 e2 e3 e4 e5
 dsimp only
 rw[hT]
 exact⟨fun d=>QC_bad h2 d,fun d=>⟨⟨hh,hl⟩,fF h2 d h3⟩⟩
set_option maxRecDepth 100000 in
theorem dC_allow{t c h o p:Int}{es:List E4}{vs:List (List Int)}{n:Int}{ps:List Pm}{k:Int}{e0 e1 e2 e3 e4 e5:Int}(hs:sOk (t,c,h,o,p,(es,vs,n),ps,k)) (hh:zB (es,vs,n)=0) (hl9:ps.length<=900) (hw:wi e0 0 1099511627776=true) (he:e1=8):ActC 141 (t,c,h,o,p,(es,vs,n),ps,k) (e0,e1,e2,e3,e4,e5):=by
 have hl:ps.length<=1000:=by omega
 have h62:(ps.length:Int)<2 ^ 62:=by omega
 have h2:jJ (t,c,h,o,p,(es,vs,n),ps,k) (e0,e1,e2,e3,e4,e5)=vM (t,c,h,o,p,(es,vs,n),ps,k) (e0,e1,e2,e3,e4,e5):=by unfold jJ;dsimp only;rw[if_neg (show ¬ e1=1 by omega),if_neg (show ¬ e1=2 by omega),if_neg (show ¬ e1=3 by omega),if_neg (show ¬ e1=4 by omega),if_neg (show ¬ e1=5 by omega),if_neg (show ¬ e1=6 by omega),if_neg (show ¬ e1=7 by omega),if_pos he]
 have h3:zK (t,c,h,o,p,(es,vs,n),ps,k) (e0,e1,e2,e3,e4,e5)=kH (t,c,h,o,p,(es,vs,n),ps,k) (xH (t,c,h,o,p,(es,vs,n),ps,k) (e0,e1,e2,e3,e4,e5)):=by unfold zK;dsimp only;rw[if_neg (show ¬ e1=1 by omega),if_neg (show ¬ e1=2 by omega),if_neg (show ¬ e1=3 by omega),if_neg (show ¬ e1=4 by omega),if_neg (show ¬ e1=5 by omega),if_neg (show ¬ e1=6 by omega),if_neg (show ¬ e1=7 by omega),if_pos he]
 refine⟨[c_allow.gc],47086,47087,?_⟩
 have hT:=T_dC_allow t c h o p es vs n ps k e0 e1 e2 e3 e4 e5
 dsimp only
 rw[hT]
 exact⟨hl,⟨fun d=>QC_bad h2 d,fun d=>⟨⟨hh,by have h9:(xH (t,c,h,o,p,(es,vs,n),ps,k) (e0,e1,e2,e3,e4,e5)).length<=ps.length+1:=prmL_len (t,c,h,o,p,(es,vs,n),ps,k) (e0,e1,e2,e3,e4,e5);omega⟩,fF h2 d h3⟩⟩⟩
set_option maxRecDepth 100000 in
theorem dC_start{t c h o p:Int}{es:List E4}{vs:List (List Int)}{n:Int}{ps:List Pm}{k:Int}{e0 e1 e2 e3 e4 e5:Int}(hs:sOk (t,c,h,o,p,(es,vs,n),ps,k)) (hh:zB (es,vs,n)=0) (hl9:ps.length<=900) (hw:wi e0 0 1099511627776=true) (he:e1=9):ActC 142 (t,c,h,o,p,(es,vs,n),ps,k) (e0,e1,e2,e3,e4,e5):=by
 have hl:ps.length<=1000:=by omega
 have h62:(ps.length:Int)<2 ^ 62:=by omega
 have h2:jJ (t,c,h,o,p,(es,vs,n),ps,k) (e0,e1,e2,e3,e4,e5)=staE (t,c,h,o,p,(es,vs,n),ps,k) (e0,e1,e2,e3,e4,e5):=by unfold jJ;dsimp only;rw[if_neg (show ¬ e1=1 by omega),if_neg (show ¬ e1=2 by omega),if_neg (show ¬ e1=3 by omega),if_neg (show ¬ e1=4 by omega),if_neg (show ¬ e1=5 by omega),if_neg (show ¬ e1=6 by omega),if_neg (show ¬ e1=7 by omega),if_neg (show ¬ e1=8 by omega),if_pos he]
 have h3:zK (t,c,h,o,p,(es,vs,n),ps,k) (e0,e1,e2,e3,e4,e5)=kH (t,c,h,o,p,(es,vs,n),ps,k) (staL (t,c,h,o,p,(es,vs,n),ps,k) (e0,e1,e2,e3,e4,e5)):=by unfold zK;dsimp only;rw[if_neg (show ¬ e1=1 by omega),if_neg (show ¬ e1=2 by omega),if_neg (show ¬ e1=3 by omega),if_neg (show ¬ e1=4 by omega),if_neg (show ¬ e1=5 by omega),if_neg (show ¬ e1=6 by omega),if_neg (show ¬ e1=7 by omega),if_neg (show ¬ e1=8 by omega),if_pos he]
 refine⟨[c_start.gc],701,702,?_⟩
 have hT:=T_dC_start t c h o p es vs n ps k e0 e1 e2 e3 e4 e5
 dsimp only
 rw[hT]
 exact⟨⟨h62,hh⟩,⟨fun d=>QC_bad h2 d,fun d=>⟨⟨hh,by rw[staL_len];exact hl⟩,fF h2 d h3⟩⟩⟩
set_option maxRecDepth 100000 in
theorem dC_stop{t c h o p:Int}{es:List E4}{vs:List (List Int)}{n:Int}{ps:List Pm}{k:Int}{e0 e1 e2 e3 e4 e5:Int}(hs:sOk (t,c,h,o,p,(es,vs,n),ps,k)) (hh:zB (es,vs,n)=0) (hl9:ps.length<=900) (hw:wi e0 0 1099511627776=true) (he:e1=10):ActC 143 (t,c,h,o,p,(es,vs,n),ps,k) (e0,e1,e2,e3,e4,e5):=by
 have hl:ps.length<=1000:=by omega
 have h62:(ps.length:Int)<2 ^ 62:=by omega
 have h2:jJ (t,c,h,o,p,(es,vs,n),ps,k) (e0,e1,e2,e3,e4,e5)=stoE (t,c,h,o,p,(es,vs,n),ps,k) (e0,e1,e2,e3,e4,e5):=by unfold jJ;dsimp only;rw[if_neg (show ¬ e1=1 by omega),if_neg (show ¬ e1=2 by omega),if_neg (show ¬ e1=3 by omega),if_neg (show ¬ e1=4 by omega),if_neg (show ¬ e1=5 by omega),if_neg (show ¬ e1=6 by omega),if_neg (show ¬ e1=7 by omega),if_neg (show ¬ e1=8 by omega),if_neg (show ¬ e1=9 by omega)]
 have h3:zK (t,c,h,o,p,(es,vs,n),ps,k) (e0,e1,e2,e3,e4,e5)=kH (t,c,h,o,p,(es,vs,n),ps,k) (zAc (t,c,h,o,p,(es,vs,n),ps,k) (e0,e1,e2,e3,e4,e5)):=by unfold zK;dsimp only;rw[if_neg (show ¬ e1=1 by omega),if_neg (show ¬ e1=2 by omega),if_neg (show ¬ e1=3 by omega),if_neg (show ¬ e1=4 by omega),if_neg (show ¬ e1=5 by omega),if_neg (show ¬ e1=6 by omega),if_neg (show ¬ e1=7 by omega),if_neg (show ¬ e1=8 by omega),if_neg (show ¬ e1=9 by omega)]
 refine⟨[c_stop.gc],701,702,?_⟩
 have hT:=T_dC_stop t c h o p es vs n ps k e0 e1 e2 e3 e4 e5
 dsimp only
 rw[hT]
 exact⟨h62,⟨fun d=>QC_bad h2 d,fun d=>⟨⟨hh,by rw[stoL_len];exact hl⟩,fF h2 d h3⟩⟩⟩
abbrev siteDs(s:zE):List SV:=fR s.1 s.2.1 s.2.2.1 s.2.2.2.1 s.2.2.2.2.1 s.2.2.2.2.2.1.1 s.2.2.2.2.2.1.2.1 s.2.2.2.2.2.1.2.2 s.2.2.2.2.2.2.1 s.2.2.2.2.2.2.2
def obsDA(f:FuncId)(s:zE)(e:zN):Exit×List SV×List (Option Ob)×List Bool :=
 (.normal,[.ptr 3086 0,.ptr 4086 0,.ptr 5086 0,.fn f [],.agg (siteDs s)],[some (.box (siteDs s)),some (.box (entDs e)),some (.box xS)],List.replicate 3 true)
def doR(s:zE)(e:zN):zE×Int:=if jJ s e≠0 then (qJ,jJ s e) else (setB (fL (zK s e) e.1) (brkN s e (zK s e)),0)
def QA(s:zE)(e:zN)(x:Exit×List SV×List (Option Ob)×List Bool):Prop :=
 (∃m,x=(.ret,[.agg xS,.int .i64 m],[],[])/\doG s e=(qJ,m))\/(∃f,x=obsDA f s e/\ActC f s e/\doG s e=doR s e)
set_option maxRecDepth 100000 in
theorem dA_ok{t c h o p:Int}{es:List E4}{vs:List (List Int)}{n:Int}{ps:List Pm}{k:Int}{e0 e1 e2 e3 e4 e5:Int}(hs:sOk (t,c,h,o,p,(es,vs,n),ps,k)) (hh:zB (es,vs,n)=0) (hl9:ps.length<=900):(jR (P:=P) [wE.gc,kY.gc,c_deeds.gc] (fun _=>none) [] 86 0 (cut1 4 bDo) (fW (z_ 0 [.agg zR,.agg jE] ((t,c,h,o,p,(es,vs,n),ps,k),(e0,e1,e2,e3,e4,e5),()))) (fun _=>none) kDA).holds (QA (t,c,h,o,p,(es,vs,n),ps,k) (e0,e1,e2,e3,e4,e5)):=by
 have hT:=T_dA t c h o p es vs n ps k e0 e1 e2 e3 e4 e5
 rw[hT]
 have bad:∀m,doG (t,c,h,o,p,(es,vs,n),ps,k) (e0,e1,e2,e3,e4,e5)=(qJ,m)->QA (t,c,h,o,p,(es,vs,n),ps,k) (e0,e1,e2,e3,e4,e5) (.ret,[.agg xS,.int .i64 m],[],[]):=fun m h=>.inl ⟨m,rfl,h⟩
 refine⟨fun c1=>bad _ ?_,fun c1=>⟨fun c2=>bad _ ?_,fun c2=>⟨fun c3=>bad _ ?_,fun c3=>?_⟩⟩⟩
 ·unfold doG;exact if_pos (xP c1)
 ·unfold doG;rw[if_neg (by rw[show wi e0 0 1099511627776=true from qR c1];decide)];exact if_pos (dcT c2)
 ·unfold doG;rw[if_neg (by rw[show wi e0 0 1099511627776=true from qR c1];decide),if_neg (dcF c2)];exact if_pos (xP c3)
 have hw:wi e0 0 1099511627776=true:=qR c1
 have dS:doG (t,c,h,o,p,(es,vs,n),ps,k) (e0,e1,e2,e3,e4,e5)=if e1<1\/e1>10 then (qJ,4) else doR (t,c,h,o,p,(es,vs,n),ps,k) (e0,e1,e2,e3,e4,e5):=by
  unfold doG doR
  rw[if_neg (by rw[hw];decide),if_neg (dcF c2),if_neg (by rw[show vB c e2=true from qR c3];decide)]
 have good:∀f,1<=e1/\e1<=10->ActC f (t,c,h,o,p,(es,vs,n),ps,k) (e0,e1,e2,e3,e4,e5)->QA (t,c,h,o,p,(es,vs,n),ps,k) (e0,e1,e2,e3,e4,e5) (obsDA f (t,c,h,o,p,(es,vs,n),ps,k) (e0,e1,e2,e3,e4,e5)):=fun f h hf=>.inr ⟨f,rfl,hf,by rw[dS,if_neg (by omega)]⟩
 refine⟨fun d=>?_,fun k1=>?_⟩
 ·have d:e1=1:=dcT d
  exact⟨fun h=>(by cases h),fun _=>good 134 (by omega) (dC_install hs hh hl9 hw d)⟩
 refine⟨fun d=>?_,fun k2=>?_⟩
 ·have d:e1=2:=dcT d
  exact⟨fun h=>(by cases h),fun _=>good 135 (by omega) (dC_test hs hh hl9 hw d)⟩
 refine⟨fun d=>?_,fun k3=>?_⟩
 ·have d:e1=3:=dcT d
  exact⟨fun h=>(by cases h),fun _=>good 136 (by omega) (dC_fail hs hh hl9 hw d)⟩
 refine⟨fun d=>?_,fun k4=>?_⟩
 ·have d:e1=4:=dcT d
  exact⟨fun h=>(by cases h),fun _=>good 137 (by omega) (dC_remove hs hh hl9 hw d)⟩
 refine⟨fun d=>?_,fun k5=>?_⟩
 ·have d:e1=5:=dcT d
  exact⟨fun h=>(by cases h),fun _=>good 138 (by omega) (dC_press hs hh hl9 hw d)⟩
 refine⟨fun d=>?_,fun k6=>?_⟩
 ·have d:e1=6:=dcT d
  exact⟨fun h=>(by cases h),fun _=>good 139 (by omega) (dC_offer hs hh hl9 hw d)⟩
 refine⟨fun d=>?_,fun k7=>?_⟩
 ·have d:e1=7:=dcT d
  exact⟨fun h=>(by cases h),fun _=>good 140 (by omega) (dC_take hs hh hl9 hw d)⟩
 refine⟨fun d=>?_,fun k8=>?_⟩
 ·have d:e1=8:=dcT d
  exact⟨fun h=>(by cases h),fun _=>good 141 (by omega) (dC_allow hs hh hl9 hw d)⟩
 refine⟨fun d=>?_,fun k9=>?_⟩
 ·have d:e1=9:=dcT d
  exact⟨fun h=>(by cases h),fun _=>good 142 (by omega) (dC_start hs hh hl9 hw d)⟩
 refine⟨fun d=>?_,fun k10=>?_⟩
 ·have d:e1=10:=dcT d
  exact⟨fun h=>(by cases h),fun _=>good 143 (by omega) (dC_stop hs hh hl9 hw d)⟩
 refine⟨findI_none fun p hp=>?_,⟨fun _=>?_,fun h=>(by cases h)⟩⟩
 ·simp only[List.mem_cons,List.not_mem_nil,or_false] at hp
  have:=dcF k1;have:=dcF k2;have:=dcF k3;have:=dcF k4;have:=dcF k5;have:=dcF k6;have:=dcF k7;have:=dcF k8;have:=dcF k9;have:=dcF k10
  rcases hp with rfl |rfl |rfl |rfl |rfl |rfl |rfl |rfl |rfl |rfl<;>assumption
 ·refine bad 4 ?_
  rw[dS,if_pos]
  have:=dcF k1;have:=dcF k2;have:=dcF k3;have:=dcF k4;have:=dcF k5;have:=dcF k6;have:=dcF k7;have:=dcF k8;have:=dcF k9;have:=dcF k10
  omega
end
end Go.MB
