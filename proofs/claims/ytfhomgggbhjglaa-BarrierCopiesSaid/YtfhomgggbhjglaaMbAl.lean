/- The law BarrierCopies: parts of its walk. -/
import Derived.Test.YtfhomgggbhjglaaMbAj
import Derived.Test.YtfhomgggbhjglaaMbAk
import Derived.Test.YtfhomgggbhjglaaSxAn
namespace Go.MB
open Go Go.Sx Go.Proofs
set_option linter.unusedVariables false
set_option linter.unusedSimpArgs false
noncomputable section
def bCps:Code:=bodyOf Try.f9
abbrev siteD (t c h o p:Int) (es:List E4) (vs:List (List Int)) (n:Int) (ps:List Pm) (k:Int):List SV:=[.int .i64 t,.int .i64 c,.int .i64 h,.int .i64 o,.int .i64 p,.sl tEl es,.sl tIs vs,.int .i64 n,.sl tPm ps,.int .i64 k]
def opsOf:Code → List Oper
  | .region _ ops _ => ops.toList
  | _ => []
def arrOf:Code → Array Oper
  | .region _ ops _ => ops
  | _ => #[]
def rCps:Code:=cFst (cut2 3 bCps)
def kCsA (e:Exit) (S:St) (K:Kn):Tree (Exit × List SV × List (Option Ob) × List Bool):=match e with
  | .normal => execOps (P:=P) [] 111 (arrOf rCps) false ((opsOf rCps).take 1) S K [] (fun S _ => obs [2,3,4,5,20] [3111,4111,6111] [3111,4111,6111] .normal S)
  | .ret => obsB P 111 Try.f9 S fun b => .leaf (.ret,[.bool b],[],[])
  | _ => .fail 60
theorem T_csA (t c h o p:Int) (es:List E4) (vs:List (List Int)) (n:Int) (ps:List Pm) (k:Int) (t' c' h' o' p' : Int) (es' : List E4) (vs' : List (List Int)) (n' : Int) (ps' : List Pm) (k' : Int):execC (P:=P) [c_BigSite.gc,c_awake.gc,c_rCopy.gc] (fun _ => none) [] 111 0 (cut1 3 bCps) (argSt (encL 0 [.agg tSite,.agg tSite] ((t,c,h,o,p,(es,vs,n),ps,k),(t',c',h',o',p',(es',vs',n'),ps',k'),()))) (fun _ => none) kCsA =
  Tree.cond (bigH (es,vs,n) || decide ((ps.length:Int) > (20:Int))) (.leaf (Exit.ret,[SV.bool true],[],[])) (.cond (bigH (es',vs',n') || decide ((↑(List.length ps'):Int) > (20:Int))) (.leaf (Exit.ret,[SV.bool true],[],[])) (.need (sOk (t,c,h,o,p,(es,vs,n),ps,k)) (.leaf (Exit.normal,[SV.ptr (3111:Nat) (0:Nat),SV.ptr (4111:Nat) (0:Nat),SV.bool false,SV.ptr (6111:Nat) (0:Nat),SV.agg [SV.int IntKind.i64 t,SV.int IntKind.i64 c,SV.int IntKind.i64 h,SV.int IntKind.i64 o,SV.int IntKind.i64 p,SV.sl (Ty.pair tI (Ty.pair tI (Ty.pair tI tI))) es,SV.sl (Ty.sl tI) vs,SV.int IntKind.i64 n,SV.sl (Ty.pair tI (Ty.pair tI (Ty.pair tI Ty.bool))) ps,SV.int IntKind.i64 k]],[some (Ob.box [SV.int IntKind.i64 t,SV.int IntKind.i64 c,SV.int IntKind.i64 h,SV.int IntKind.i64 o,SV.int IntKind.i64 p,SV.sl tEl es,SV.sl tIs vs,SV.int IntKind.i64 n,SV.sl tPm ps,SV.int IntKind.i64 k]),some (Ob.box [SV.int IntKind.i64 t',SV.int IntKind.i64 c',SV.int IntKind.i64 h',SV.int IntKind.i64 o',SV.int IntKind.i64 p',SV.sl tEl es',SV.sl tIs vs',SV.int IntKind.i64 n',SV.sl tPm ps',SV.int IntKind.i64 k']),some (Ob.box [SV.int IntKind.i64 t,SV.int IntKind.i64 c,SV.int IntKind.i64 h,SV.int IntKind.i64 o,SV.int IntKind.i64 p,SV.sl tEl es,SV.sl tIs vs,SV.int IntKind.i64 n,SV.sl tPm ps,SV.int IntKind.i64 k])],[true,true,true])))):=by kernel_rfl
abbrev siteM (t c h o p n k:Int) (a b d:Nat):List SV:=[.int .i64 t,.int .i64 c,.int .i64 h,.int .i64 o,.int .i64 p,.own a,.own b,.int .i64 n,.own d,.int .i64 k]
def csB (t c h o p:Int) (es:List E4) (vs:List (List Int)) (n:Int) (ps:List Pm) (k:Int) (t' c' h' o' p' : Int) (es' : List E4) (vs' : List (List Int)) (n' : Int) (ps' : List Pm) (k' : Int):St:=stOf [(2,.ptr 3111 0),(3,.ptr 4111 0),(4,.bool false),(5,.ptr 6111 0),(21,.agg (siteM t c h o p n k 701 702 703))]
  [(3111,some (.box (siteM t c h o p n k 711 712 713))),(4111,some (.box (siteD t' c' h' o' p' es' vs' n' ps' k'))),(6111,some (.box (siteM t c h o p n k 731 732 733))),(701,some (.frz tEl es)),(702,some (.frz tIs vs)),(703,some (.frz tPm ps)),
    (711,some (.frz tEl es)),(712,some (.frz tIs vs)),(713,some (.frz tPm ps)),(731,some (.frz tEl es)),(732,some (.frz tIs vs)),(733,some (.frz tPm ps))] [3111,4111,6111,701,702,703,711,712,713,731,732,733]
def xCps:Code:=cut2 4 bCps
def kCsC (e:Exit) (S:St) (K:Kn):Tree (Exit × List SV × List (Option Ob) × List Bool):=match e with
  | .normal => execC (P:=P) [] (fun _ => none) [] 111 0 (cFst (cFst (cSnd xCps))) S K (fun e S _ => obs [2,5,6,7] [3111,4111,6111,701,702,703,711,712,713,731,732,733,7111] [3111,4111,6111,701,702,703,711,712,713,731,732,733,7111] e S)
  | e => .leaf (e,[],[],[])
def kCsB (S:St) (K:Kn):Tree (Exit × List SV × List (Option Ob) × List Bool):=execC (P:=P) [c_pSame.gc,c_rSame.gc] (fun _ => none) [] 111 0 (cFst xCps) S K kCsC
theorem T_csB (t c h o p:Int) (es:List E4) (vs:List (List Int)) (n:Int) (ps:List Pm) (k:Int) (t' c' h' o' p' : Int) (es' : List E4) (vs' : List (List Int)) (n' : Int) (ps' : List Pm) (k' : Int):execOps (P:=P) [] 111 (arrOf rCps) false ((opsOf rCps).drop 2) (csB t c h o p es vs n ps k t' c' h' o' p' es' vs' n' ps' k') (fun _ => none) [] kCsB =
  Tree.need (sOk (t,c,h,o,p,(es,vs,n),ps,k) ∧ sOk (t',c',h',o',p',(es',vs',n'),ps',k')) (.need (sOk (t,c,h,o,p,(es,vs,n),ps,k) ∧ sOk (t',c',h',o',p',(es',vs',n'),ps',k')) (.cond (!sameB (t,c,h,o,p,(es,vs,n),ps,k) (t',c',h',o',p',(es',vs',n'),ps',k') == sameB (t,c,h,o,p,(es,vs,n),ps,k) (t',c',h',o',p',(es',vs',n'),ps',k')) (.leaf (Exit.ret,[],[],[])) (.need (sOk (t,c,h,o,p,(es,vs,n),ps,k) ∧ sOk (t,c,h,o,p,(es,vs,n),ps,k)) (.cond (!sameB (t,c,h,o,p,(es,vs,n),ps,k) (t,c,h,o,p,(es,vs,n),ps,k)) (.leaf (Exit.ret,[],[],[])) (.need (sOk (t,c,h,o,p,(es,vs,n),ps,k) ∧ sOk (t,c,h,o,p,(es,vs,n),ps,k)) (.cond (!sameB (t,c,h,o,p,(es,vs,n),ps,k) (t,c,h,o,p,(es,vs,n),ps,k)) (.leaf (Exit.ret,[],[],[])) (.leaf (Exit.normal,[SV.ptr (3111:Nat) (0:Nat),SV.ptr (6111:Nat) (0:Nat),SV.ptr (7111:Nat) (0:Nat),SV.int IntKind.i64 (0:Int)],[some (Ob.box [SV.int IntKind.i64 t,SV.int IntKind.i64 c,SV.int IntKind.i64 h,SV.int IntKind.i64 o,SV.int IntKind.i64 p,SV.own (711:Nat),SV.own (712:Nat),SV.int IntKind.i64 n,SV.own (713:Nat),SV.int IntKind.i64 k]),some (Ob.box [SV.int IntKind.i64 t',SV.int IntKind.i64 c',SV.int IntKind.i64 h',SV.int IntKind.i64 o',SV.int IntKind.i64 p',SV.sl tEl es',SV.sl tIs vs',SV.int IntKind.i64 n',SV.sl tPm ps',SV.int IntKind.i64 k']),some (Ob.box [SV.int IntKind.i64 t,SV.int IntKind.i64 c,SV.int IntKind.i64 h,SV.int IntKind.i64 o,SV.int IntKind.i64 p,SV.own (731:Nat),SV.own (732:Nat),SV.int IntKind.i64 n,SV.own (733:Nat),SV.int IntKind.i64 k]),some (Ob.frz tEl es),some (Ob.frz tIs vs),some (Ob.frz tPm ps),some (Ob.frz tEl es),some (Ob.frz tIs vs),some (Ob.frz tPm ps),some (Ob.frz tEl es),some (Ob.frz tIs vs),some (Ob.frz tPm ps),some (Ob.box [SV.int IntKind.i64 t,SV.int IntKind.i64 c,SV.int IntKind.i64 h,SV.int IntKind.i64 o,SV.int IntKind.i64 p,SV.own (701:Nat),SV.own (702:Nat),SV.int IntKind.i64 n,SV.own (703:Nat),SV.int IntKind.i64 k])],[true,true,true,true,true,true,true,true,true,true,true,true,true])))))))):=by kernel_rfl
end
end Go.MB
