/- A copy of a site lies in new memory: copies of lists as rows of their own, the first part of the walk. -/
import Derived.Test.YtfhomgggbhjglaaMbI
import Derived.Test.YtfhomgggbhjglaaSxAl
namespace Go.MB
open Go Go.Sx Go.Proofs
set_option linter.unusedVariables false
set_option linter.unusedSimpArgs false
noncomputable section
def L_clonePU:Lay:={ slots:=[(0,.oval tPm)] }
theorem T_clonePU (l:List Pm) (b:Bool):mTree (P:=P) [] (lpOf []) Try.f63 L_clonePU true ((l,b),()) =
  Tree.cond b (.leaf { res:=SV.nils,boxes:=[] }) (.need (((0:Nat) + List.length l) * (32:Nat) ≤ (140737488355328:Nat)) (.leaf { res:=SV.own (nat_lit 100),boxes:=[],news:=[Ob.row (44:Nat) (Ty.pair (Ty.int IntKind.i64) (Ty.pair (Ty.int IntKind.i64) (Ty.pair (Ty.int IntKind.i64) Ty.bool))) l] })):=by kernel_rfl
def c_clonePU:XC P:=XC.of (α:=(List Pm × Bool) × Unit) 63 L_clonePU (fun x => x) (fun x => x) (fun _ => rfl)
  (fun x => some ((x.1.2 = true → x.1.1 = []) ∧ x.1.1.length ≤ 1000))
  (fun x => ⟨.own 100,[],[.row 44 tPm x.1.1]⟩) (by kernel_rfl) (by kernel_rfl) (by
    rintro ⟨⟨l,b⟩,⟨⟩⟩ hp
    refine m_nil hm (own:=true) (by kernel_rfl) (by kernel_rfl) (by kernel_rfl) (T_clonePU l b) trivial (by kernel_rfl) (by kernel_rfl) ?_
    obtain ⟨h1,h2⟩ : (b = true → l = []) ∧ l.length ≤ 1000:=hp
    refine ⟨fun h => .inr ⟨rfl,rfl,h1 h,nilS_own⟩,fun _ => ⟨by omega,.inl rfl⟩⟩)
def L_cloneEU:Lay:={ slots:=[(0,.oval tEl)] }
theorem T_cloneEU (l:List E4) (b:Bool):mTree (P:=P) [] (lpOf []) Try.f64 L_cloneEU true ((l,b),()) =
  Tree.cond b (.leaf { res:=SV.nils,boxes:=[] }) (.need (((0:Nat) + List.length l) * (32:Nat) ≤ (140737488355328:Nat)) (.leaf { res:=SV.own (nat_lit 100),boxes:=[],news:=[Ob.row (70:Nat) (Ty.pair (Ty.int IntKind.i64) (Ty.pair (Ty.int IntKind.i64) (Ty.pair (Ty.int IntKind.i64) (Ty.int IntKind.i64)))) l] })):=by kernel_rfl
def c_cloneEU:XC P:=XC.of (α:=(List E4 × Bool) × Unit) 64 L_cloneEU (fun x => x) (fun x => x) (fun _ => rfl)
  (fun x => some ((x.1.2 = true → x.1.1 = []) ∧ x.1.1.length ≤ 1000))
  (fun x => ⟨.own 100,[],[.row 70 tEl x.1.1]⟩) (by kernel_rfl) (by kernel_rfl) (by
    rintro ⟨⟨l,b⟩,⟨⟩⟩ hp
    refine m_nil hm (own:=true) (by kernel_rfl) (by kernel_rfl) (by kernel_rfl) (T_cloneEU l b) trivial (by kernel_rfl) (by kernel_rfl) ?_
    obtain ⟨h1,h2⟩ : (b = true → l = []) ∧ l.length ≤ 1000:=hp
    refine ⟨fun h => .inr ⟨rfl,rfl,h1 h,nilS_own⟩,fun _ => ⟨by omega,.inl rfl⟩⟩)
def L_cloneIU:Lay:={ slots:=[(0,.oval tI)] }
theorem T_cloneIU (l:List Int) (b:Bool):mTree (P:=P) [] (lpOf []) Try.f66 L_cloneIU true ((l,b),()) =
  Tree.cond b (.leaf { res:=SV.nils,boxes:=[] }) (.need (((0:Nat) + List.length l) * (8:Nat) ≤ (140737488355328:Nat)) (.leaf { res:=SV.own (nat_lit 100),boxes:=[],news:=[Ob.row (3:Nat) (Ty.int IntKind.i64) l] })):=by kernel_rfl
def c_cloneIU:XC P:=XC.of (α:=(List Int × Bool) × Unit) 66 L_cloneIU (fun x => x) (fun x => x) (fun _ => rfl)
  (fun x => some ((x.1.2 = true → x.1.1 = []) ∧ x.1.1.length ≤ 1000))
  (fun x => ⟨.own 100,[],[.row 3 tI x.1.1]⟩) (by kernel_rfl) (by kernel_rfl) (by
    rintro ⟨⟨l,b⟩,⟨⟩⟩ hp
    refine m_nil hm (own:=true) (by kernel_rfl) (by kernel_rfl) (by kernel_rfl) (T_cloneIU l b) trivial (by kernel_rfl) (by kernel_rfl) ?_
    obtain ⟨h1,h2⟩ : (b = true → l = []) ∧ l.length ≤ 1000:=hp
    refine ⟨fun h => .inr ⟨rfl,rfl,h1 h,nilS_own⟩,fun _ => ⟨by omega,.inl rfl⟩⟩)
def c_cpP:XC P where
  f:=c_clonePU.f
  L:={ slots:=[(0,.val tPms)] }
  pre:=fun x => some (List.length (α:=Pm) x.1 ≤ 1000)
  out:=fun x => ⟨.own 100,[],[.row 44 tPm x.1]⟩
  ent:=c_clonePU.ent
  lok:=rfl
  ok:=fun x h => MFnOk.byNil fun b hb => c_clonePU.ok ((x.1,b),()) ⟨hb,h⟩
def c_cpE:XC P where
  f:=c_cloneEU.f
  L:={ slots:=[(0,.val tEls)] }
  pre:=fun x => some (List.length (α:=E4) x.1 ≤ 1000)
  out:=fun x => ⟨.own 100,[],[.row 70 tEl x.1]⟩
  ent:=c_cloneEU.ent
  lok:=rfl
  ok:=fun x h => MFnOk.byNil fun b hb => c_cloneEU.ok ((x.1,b),()) ⟨hb,h⟩
def c_cpI:XC P where
  f:=c_cloneIU.f
  L:={ slots:=[(0,.val tIs)] }
  pre:=fun x => some (List.length (α:=Int) x.1 ≤ 1000)
  out:=fun x => ⟨.own 100,[],[.row 3 tI x.1]⟩
  ent:=c_cloneIU.ent
  lok:=rfl
  ok:=fun x h => MFnOk.byNil fun b hb => c_cloneIU.ok ((x.1,b),()) ⟨hb,h⟩
def bCopy:Code:=bodyOf Try.f39
def xCopy:Code:=cFst (cut2 4 bCopy)
def lCopy:Code:=cSnd xCopy
def rCopyB:Code:=cIn (cIn lCopy)
def eCopy:Code:=cSnd (cut2 4 bCopy)
def kCpA (e:Exit) (S:St) (K:Kn):Tree (Exit × List SV × List (Option Ob) × List Bool):=match e with
  | .normal => execC (P:=P) [] (fun _ => none) [] 41 0 (cFst xCopy) S K (fun e S _ => obs [1,2,23,24] [2041,3041,7041,12041,18041] [2041,3041,7041,12041,18041] e S)
  | _ => .fail 60
theorem T_cpA (t c h o p:Int) (es:List E4) (vs:List (List Int)) (n:Int) (ps:List Pm) (k:Int):execC (P:=P) [c_cpP.gc,c_cpE.gc,c_cloneV.gc] (fun _ => none) [] 41 0 (cut1 4 bCopy) (argSt (encL 0 [.agg tSite] ((t,c,h,o,p,(es,vs,n),ps,k),()))) (fun _ => none) kCpA =
  Tree.need (List.length ps ≤ (1000:Nat)) (.need (List.length es ≤ (1000:Nat)) (.need (List.length vs ≤ (1000:Nat)) (.leaf (Exit.normal,[SV.ptr (2041:Nat) (0:Nat),SV.ptr (3041:Nat) (0:Nat),SV.int IntKind.i64 (vs.length:Int),SV.int IntKind.i64 (0:Int)],[some (Ob.box [SV.int IntKind.i64 t,SV.int IntKind.i64 c,SV.int IntKind.i64 h,SV.int IntKind.i64 o,SV.int IntKind.i64 p,SV.own (nat_lit 12041 + ((100:Nat) - nat_lit 100)),SV.own (nat_lit 18041),SV.int IntKind.i64 n,SV.own (nat_lit 7041 + ((100:Nat) - nat_lit 100)),SV.int IntKind.i64 k]),some (Ob.box [SV.int IntKind.i64 (0:Int),SV.int IntKind.i64 (0:Int),SV.int IntKind.i64 (0:Int),SV.int IntKind.i64 (0:Int),SV.int IntKind.i64 (0:Int),SV.nils,SV.nils,SV.int IntKind.i64 (0:Int),SV.nils,SV.int IntKind.i64 (0:Int)]),some (Ob.row (44:TypeId) tPm ps),some (Ob.row (70:TypeId) tEl es),some (Ob.row (22:TypeId) tIs vs)],[true,true,true,true,true])))):=by kernel_rfl
def cpSt (t c h o p n k m i:Int) (us:List Value) (l:List Int):St:=stOf [(1,.ptr 2041 0),(2,.ptr 3041 0),(23,.int .i64 m),(24,.int .i64 i)]
  [(2041,some (.box [.int .i64 t,.int .i64 c,.int .i64 h,.int .i64 o,.int .i64 p,.own 12041,.own 18041,.int .i64 n,.own 7041,.int .i64 k])),(18041,some (.hole 22 us i.toNat 700)),(700,some (.frz tI l))] [2041,3041,7041,12041,18041,700]
theorem T_cpB (t c h o p n k m i:Int) (us:List Value) (l:List Int):execC (P:=P) [c_cpI.gc] (fun _ => none) [] 41 0 rCopyB (cpSt t c h o p n k m i us l) (fun _ => none) (fun e S _ => obs [1,2,23,24] [2041,18041,38041] [38041] e S) =
  Tree.cond (decide (i < m)) (.need ((0:Int) ≤ i ∧ i < (us.length:Int)) (.need (Int.toNat i = Int.toNat i) (.need (List.length l ≤ (1000:Nat)) (.need ((0:Int) ≤ i ∧ i < (us.length:Int)) (.need (Int.toNat i = Int.toNat i) (.leaf (Exit.normal,[SV.ptr (2041:Nat) (0:Nat),SV.ptr (3041:Nat) (0:Nat),SV.int IntKind.i64 m,SV.int IntKind.i64 (IntKind.i64.wrap (i + (1:Int)))],[some (Ob.box [SV.int IntKind.i64 t,SV.int IntKind.i64 c,SV.int IntKind.i64 h,SV.int IntKind.i64 o,SV.int IntKind.i64 p,SV.own (12041:Nat),SV.own (18041:Nat),SV.int IntKind.i64 n,SV.own (7041:Nat),SV.int IntKind.i64 k]),some (Ob.hole (22:TypeId) us (Int.toNat i) (nat_lit 38041 + ((100:Nat) - nat_lit 100))),some (Ob.row (3:TypeId) tI l)],[true]))))))) (.leaf (Exit.exit (0:Nat),[SV.ptr (2041:Nat) (0:Nat),SV.ptr (3041:Nat) (0:Nat),SV.int IntKind.i64 m,SV.int IntKind.i64 i],[some (Ob.box [SV.int IntKind.i64 t,SV.int IntKind.i64 c,SV.int IntKind.i64 h,SV.int IntKind.i64 o,SV.int IntKind.i64 p,SV.own (12041:Nat),SV.own (18041:Nat),SV.int IntKind.i64 n,SV.own (7041:Nat),SV.int IntKind.i64 k]),some (Ob.hole (22:TypeId) us (Int.toNat i) (700:Nat)),none],[false])):=by kernel_rfl
def cpEnd (t c h o p:Int) (es:List E4) (vs:List (List Int)) (n:Int) (ps:List Pm) (k:Int):St:=stOf [(1,.ptr 2041 0),(2,.ptr 3041 0)]
  [(2041,some (.box [.int .i64 t,.int .i64 c,.int .i64 h,.int .i64 o,.int .i64 p,.own 12041,.sl tIs vs,.int .i64 n,.own 7041,.int .i64 k])),(3041,some (.box [.int .i64 0,.int .i64 0,.int .i64 0,.int .i64 0,.int .i64 0,.nils,.nils,.int .i64 0,.nils,.int .i64 0])),(7041,some (.row 44 tPm ps)),(12041,some (.row 70 tEl es))] [2041,3041,7041,12041]
theorem T_cpE (t c h o p:Int) (es:List E4) (vs:List (List Int)) (n:Int) (ps:List Pm) (k:Int):execC (P:=P) [] (fun _ => none) [] 41 0 eCopy (cpEnd t c h o p es vs n ps k) (fun _ => none) (fun e S _ => obsR P 41 Try.f39 S fun cs => obsH S [7041,12041] fun b => .leaf (e,cs,b)) =
  Tree.leaf (Exit.ret,[SV.int IntKind.i64 t,SV.int IntKind.i64 c,SV.int IntKind.i64 h,SV.int IntKind.i64 o,SV.int IntKind.i64 p,SV.own (12041:Nat),SV.sl (Ty.sl tI) vs,SV.int IntKind.i64 n,SV.own (7041:Nat),SV.int IntKind.i64 k],[some (Ob.row (44:TypeId) tPm ps),some (Ob.row (70:TypeId) tEl es)]):=by kernel_rfl
def cpX (m i:Int):St:=stOf [(1,.ptr 2041 0),(2,.ptr 3041 0),(23,.int .i64 m),(24,.int .i64 i)] [] [2041,3041]
theorem T_cpX (m i:Int):execC (P:=P) [] (fun _ => none) [] 41 0 rCopyB (cpX m i) (fun _ => none) (fun e S _ => obs [1,2,23,24] [] [] e S) =
  Tree.cond (decide (i < m)) (Tree.fail (1029:Nat)) (.leaf (Exit.exit (0:Nat),[SV.ptr (2041:Nat) (0:Nat),SV.ptr (3041:Nat) (0:Nat),SV.int IntKind.i64 m,SV.int IntKind.i64 i],[],[])):=by kernel_rfl
end
end Go.MB
