/- The law BarrierCopies: its loops over the copy. -/
import Derived.Test.YtfhomgggbhjglaaMbAl
namespace Go.MB
open Go Go.Sx Go.Proofs
set_option linter.unusedVariables false
set_option linter.unusedSimpArgs false
noncomputable section
def yCps:Code:=cSnd xCps
def zCps:Code:=cSnd yCps
def uCps:Code:=cSnd zCps
def eCps:Code:=cSnd uCps
def lp1:Code:=cSnd (cFst yCps)
def lp2:Code:=cSnd (cFst zCps)
def lp6:Code:=cSnd (cFst uCps)
def b1:Code:=cIn (cIn lp1)
def b2:Code:=cIn (cIn lp2)
def lp4:Code:=cSnd (cIn (cFst (cSnd b2)))
def b4:Code:=cIn (cIn lp4)
def b6:Code:=cIn (cIn lp6)
def w1:Code:=cIn (cFst (cSnd b1))
def w4:Code:=cIn (cFst (cSnd b4))
def w6:Code:=cIn (cFst (cSnd b6))
theorem T_1a (d:Site) (i:Int):execC (P:=P) [] (fun _ => none) [] 111 0 (cFst b1) (stOf [(7,.int .i64 i),(6,.adr tSite d),(2,.ptr 3111 0),(5,.ptr 6111 0)] [] [3111,6111]) (fun _ => none) (fun e S _ => obs [7,6,2,5] [] [] e S) =
  Tree.cond (decide (i < (↑(List.length d.snd.snd.snd.snd.snd.fst.fst):Int))) (.leaf (Exit.normal,[SV.int IntKind.i64 i,SV.adr (Ty.pair tI (Ty.pair tI (Ty.pair tI (Ty.pair tI (Ty.pair tI (Ty.pair tHs (Ty.pair tPms tI))))))) d,SV.ptr (3111:Nat) (0:Nat),SV.ptr (6111:Nat) (0:Nat)],[],[])) (.leaf (Exit.exit (0:Nat),[SV.int IntKind.i64 i,SV.adr (Ty.pair tI (Ty.pair tI (Ty.pair tI (Ty.pair tI (Ty.pair tI (Ty.pair tHs (Ty.pair tPms tI))))))) d,SV.ptr (3111:Nat) (0:Nat),SV.ptr (6111:Nat) (0:Nat)],[],[])):=by kernel_rfl
theorem T_1b (d:Site) (i:Int):execOps (P:=P) [] 111 (arrOf w1) false ((opsOf w1).take 10) (stOf [(7,.int .i64 i),(6,.adr tSite d),(2,.ptr 3111 0),(5,.ptr 6111 0)] [] [3111,6111]) (fun _ => none) [] (fun S _ => obs [6,58,56,7,2,5] [] [] .normal S) =
  Tree.need ((0:Int) ≤ i ∧ i < (↑(List.length d.snd.snd.snd.snd.snd.fst.fst):Int)) (.need ((0:Int) ≤ i ∧ i < (↑(List.length d.snd.snd.snd.snd.snd.fst.fst):Int)) (.leaf (Exit.normal,[SV.adr (Ty.pair tI (Ty.pair tI (Ty.pair tI (Ty.pair tI (Ty.pair tI (Ty.pair tHs (Ty.pair tPms tI))))))) d,SV.adr (Ty.int IntKind.i64) (List.getD d.snd.snd.snd.snd.snd.fst.fst (Int.toNat i) (0,0,0,0)).snd.snd.snd,SV.int IntKind.i64 (IntKind.i64.wrap ((List.getD d.snd.snd.snd.snd.snd.fst.fst (Int.toNat i) (0,0,0,0)).snd.snd.snd + (1:Int))),SV.int IntKind.i64 i,SV.ptr (3111:Nat) (0:Nat),SV.ptr (6111:Nat) (0:Nat)],[],[]))):=by kernel_rfl
theorem T_1c (d:Site) (i:Int):execC (P:=P) [] (fun _ => none) [] 111 0 (cSnd (cSnd b1)) (stOf [(6,.adr tSite d),(7,.int .i64 i),(2,.ptr 3111 0),(5,.ptr 6111 0)] [] [3111,6111]) (fun _ => none) (fun e S _ => obs [7,6,2,5] [] [] e S) =
  Tree.leaf (Exit.normal,[SV.int IntKind.i64 (IntKind.i64.wrap (i + (1:Int))),SV.adr (Ty.pair tI (Ty.pair tI (Ty.pair tI (Ty.pair tI (Ty.pair tI (Ty.pair tHs (Ty.pair tPms tI))))))) d,SV.ptr (3111:Nat) (0:Nat),SV.ptr (6111:Nat) (0:Nat)],[],[]):=by kernel_rfl
theorem T_2s (d:Site):execC (P:=P) [] (fun _ => none) [] 111 0 (cFst (cFst zCps)) (stOf [(6,.adr tSite d),(2,.ptr 3111 0),(5,.ptr 6111 0)] [] [3111,6111]) (fun _ => none) (fun e S _ => obs [8,6,2,5] [] [] e S) =
  Tree.leaf (Exit.normal,[SV.int IntKind.i64 (0:Int),SV.adr (Ty.pair tI (Ty.pair tI (Ty.pair tI (Ty.pair tI (Ty.pair tI (Ty.pair tHs (Ty.pair tPms tI))))))) d,SV.ptr (3111:Nat) (0:Nat),SV.ptr (6111:Nat) (0:Nat)],[],[]):=by kernel_rfl
theorem T_2a (d:Site) (i:Int):execC (P:=P) [] (fun _ => none) [] 111 2 (cFst b2) (stOf [(8,.int .i64 i),(6,.adr tSite d),(2,.ptr 3111 0),(5,.ptr 6111 0)] [] [3111,6111]) (fun _ => none) (fun e S _ => obs [8,6,2,5] [] [] e S) =
  Tree.cond (decide (i < (↑(List.length d.snd.snd.snd.snd.snd.fst.snd.fst):Int))) (.leaf (Exit.normal,[SV.int IntKind.i64 i,SV.adr (Ty.pair tI (Ty.pair tI (Ty.pair tI (Ty.pair tI (Ty.pair tI (Ty.pair tHs (Ty.pair tPms tI))))))) d,SV.ptr (3111:Nat) (0:Nat),SV.ptr (6111:Nat) (0:Nat)],[],[])) (.leaf (Exit.exit (2:Nat),[SV.int IntKind.i64 i,SV.adr (Ty.pair tI (Ty.pair tI (Ty.pair tI (Ty.pair tI (Ty.pair tI (Ty.pair tHs (Ty.pair tPms tI))))))) d,SV.ptr (3111:Nat) (0:Nat),SV.ptr (6111:Nat) (0:Nat)],[],[])):=by kernel_rfl
theorem T_2b (d:Site) (i:Int):execC (P:=P) [] (fun _ => none) [] 111 3 (cFst (cIn (cFst (cSnd b2)))) (stOf [(8,.int .i64 i),(6,.adr tSite d),(2,.ptr 3111 0),(5,.ptr 6111 0)] [] [3111,6111]) (fun _ => none) (fun e S _ => obs [9,6,8,2,5] [] [] e S) =
  Tree.leaf (Exit.normal,[SV.int IntKind.i64 (0:Int),SV.adr (Ty.pair tI (Ty.pair tI (Ty.pair tI (Ty.pair tI (Ty.pair tI (Ty.pair tHs (Ty.pair tPms tI))))))) d,SV.int IntKind.i64 i,SV.ptr (3111:Nat) (0:Nat),SV.ptr (6111:Nat) (0:Nat)],[],[]):=by kernel_rfl
theorem T_2c (d:Site) (i:Int):execC (P:=P) [] (fun _ => none) [] 111 2 (cSnd (cSnd b2)) (stOf [(6,.adr tSite d),(8,.int .i64 i),(2,.ptr 3111 0),(5,.ptr 6111 0)] [] [3111,6111]) (fun _ => none) (fun e S _ => obs [8,6,2,5] [] [] e S) =
  Tree.leaf (Exit.normal,[SV.int IntKind.i64 (IntKind.i64.wrap (i + (1:Int))),SV.adr (Ty.pair tI (Ty.pair tI (Ty.pair tI (Ty.pair tI (Ty.pair tI (Ty.pair tHs (Ty.pair tPms tI))))))) d,SV.ptr (3111:Nat) (0:Nat),SV.ptr (6111:Nat) (0:Nat)],[],[]):=by kernel_rfl
theorem T_4a (d:Site) (i m:Int):execC (P:=P) [] (fun _ => none) [] 111 4 (cFst b4) (stOf [(9,.int .i64 m),(6,.adr tSite d),(8,.int .i64 i),(2,.ptr 3111 0),(5,.ptr 6111 0)] [] [3111,6111]) (fun _ => none) (fun e S _ => obs [9,6,8,2,5] [] [] e S) =
  Tree.need ((0:Int) ≤ i ∧ i < (↑(List.length d.snd.snd.snd.snd.snd.fst.snd.fst):Int)) (.cond (decide (m < (↑(List.length (List.getD d.snd.snd.snd.snd.snd.fst.snd.fst (Int.toNat i) [])):Int))) (.leaf (Exit.normal,[SV.int IntKind.i64 m,SV.adr (Ty.pair tI (Ty.pair tI (Ty.pair tI (Ty.pair tI (Ty.pair tI (Ty.pair tHs (Ty.pair tPms tI))))))) d,SV.int IntKind.i64 i,SV.ptr (3111:Nat) (0:Nat),SV.ptr (6111:Nat) (0:Nat)],[],[])) (.leaf (Exit.exit (4:Nat),[SV.int IntKind.i64 m,SV.adr (Ty.pair tI (Ty.pair tI (Ty.pair tI (Ty.pair tI (Ty.pair tI (Ty.pair tHs (Ty.pair tPms tI))))))) d,SV.int IntKind.i64 i,SV.ptr (3111:Nat) (0:Nat),SV.ptr (6111:Nat) (0:Nat)],[],[]))):=by kernel_rfl
theorem T_4b (d:Site) (i m:Int):execOps (P:=P) [] 111 (arrOf w4) false ((opsOf w4).take 11) (stOf [(9,.int .i64 m),(6,.adr tSite d),(8,.int .i64 i),(2,.ptr 3111 0),(5,.ptr 6111 0)] [] [3111,6111]) (fun _ => none) [] (fun S _ => obs [6,88,87,9,8,2,5] [] [] .normal S) =
  Tree.need ((0:Int) ≤ i ∧ i < (↑(List.length d.snd.snd.snd.snd.snd.fst.snd.fst):Int)) (.need ((0:Int) ≤ m ∧ m < (↑(List.length (List.getD d.snd.snd.snd.snd.snd.fst.snd.fst (Int.toNat i) [])):Int)) (.need ((0:Int) ≤ m ∧ m < (↑(List.length (List.getD d.snd.snd.snd.snd.snd.fst.snd.fst (Int.toNat i) [])):Int)) (.leaf (Exit.normal,[SV.adr (Ty.pair tI (Ty.pair tI (Ty.pair tI (Ty.pair tI (Ty.pair tI (Ty.pair tHs (Ty.pair tPms tI))))))) d,SV.adr (Ty.int IntKind.i64) (List.getD (List.getD d.snd.snd.snd.snd.snd.fst.snd.fst (Int.toNat i) []) (Int.toNat m) (0:Int)),SV.int IntKind.i64 (IntKind.i64.wrap (List.getD (List.getD d.snd.snd.snd.snd.snd.fst.snd.fst (Int.toNat i) []) (Int.toNat m) (0:Int) + (1:Int))),SV.int IntKind.i64 m,SV.int IntKind.i64 i,SV.ptr (3111:Nat) (0:Nat),SV.ptr (6111:Nat) (0:Nat)],[],[])))):=by kernel_rfl
theorem T_4c (d:Site) (i m:Int):execC (P:=P) [] (fun _ => none) [] 111 4 (cSnd (cSnd b4)) (stOf [(6,.adr tSite d),(9,.int .i64 m),(8,.int .i64 i),(2,.ptr 3111 0),(5,.ptr 6111 0)] [] [3111,6111]) (fun _ => none) (fun e S _ => obs [9,6,8,2,5] [] [] e S) =
  Tree.leaf (Exit.normal,[SV.int IntKind.i64 (IntKind.i64.wrap (m + (1:Int))),SV.adr (Ty.pair tI (Ty.pair tI (Ty.pair tI (Ty.pair tI (Ty.pair tI (Ty.pair tHs (Ty.pair tPms tI))))))) d,SV.int IntKind.i64 i,SV.ptr (3111:Nat) (0:Nat),SV.ptr (6111:Nat) (0:Nat)],[],[]):=by kernel_rfl
theorem T_6s (d:Site):execC (P:=P) [] (fun _ => none) [] 111 0 (cFst (cFst uCps)) (stOf [(6,.adr tSite d),(2,.ptr 3111 0),(5,.ptr 6111 0)] [] [3111,6111]) (fun _ => none) (fun e S _ => obs [10,6,2,5] [] [] e S) =
  Tree.leaf (Exit.normal,[SV.int IntKind.i64 (0:Int),SV.adr (Ty.pair tI (Ty.pair tI (Ty.pair tI (Ty.pair tI (Ty.pair tI (Ty.pair tHs (Ty.pair tPms tI))))))) d,SV.ptr (3111:Nat) (0:Nat),SV.ptr (6111:Nat) (0:Nat)],[],[]):=by kernel_rfl
theorem T_6a (d:Site) (i:Int):execC (P:=P) [] (fun _ => none) [] 111 6 (cFst b6) (stOf [(10,.int .i64 i),(6,.adr tSite d),(2,.ptr 3111 0),(5,.ptr 6111 0)] [] [3111,6111]) (fun _ => none) (fun e S _ => obs [10,6,2,5] [] [] e S) =
  Tree.cond (decide (i < (↑(List.length d.snd.snd.snd.snd.snd.snd.fst):Int))) (.leaf (Exit.normal,[SV.int IntKind.i64 i,SV.adr (Ty.pair tI (Ty.pair tI (Ty.pair tI (Ty.pair tI (Ty.pair tI (Ty.pair tHs (Ty.pair tPms tI))))))) d,SV.ptr (3111:Nat) (0:Nat),SV.ptr (6111:Nat) (0:Nat)],[],[])) (.leaf (Exit.exit (6:Nat),[SV.int IntKind.i64 i,SV.adr (Ty.pair tI (Ty.pair tI (Ty.pair tI (Ty.pair tI (Ty.pair tI (Ty.pair tHs (Ty.pair tPms tI))))))) d,SV.ptr (3111:Nat) (0:Nat),SV.ptr (6111:Nat) (0:Nat)],[],[])):=by kernel_rfl
theorem T_6b (d:Site) (i:Int):execOps (P:=P) [] 111 (arrOf w6) false ((opsOf w6).take 9) (stOf [(10,.int .i64 i),(6,.adr tSite d),(2,.ptr 3111 0),(5,.ptr 6111 0)] [] [3111,6111]) (fun _ => none) [] (fun S _ => obs [6,104,102,10,2,5] [] [] .normal S) =
  Tree.need ((0:Int) ≤ i ∧ i < (↑(List.length d.snd.snd.snd.snd.snd.snd.fst):Int)) (.need ((0:Int) ≤ i ∧ i < (↑(List.length d.snd.snd.snd.snd.snd.snd.fst):Int)) (.leaf (Exit.normal,[SV.adr (Ty.pair tI (Ty.pair tI (Ty.pair tI (Ty.pair tI (Ty.pair tI (Ty.pair tHs (Ty.pair tPms tI))))))) d,SV.adr (Ty.int IntKind.i64) (List.getD d.snd.snd.snd.snd.snd.snd.fst (Int.toNat i) ((0:Int),(0:Int),(0:Int),false)).snd.snd.fst,SV.int IntKind.i64 (IntKind.i64.wrap ((List.getD d.snd.snd.snd.snd.snd.snd.fst (Int.toNat i) ((0:Int),(0:Int),(0:Int),false)).snd.snd.fst + (1:Int))),SV.int IntKind.i64 i,SV.ptr (3111:Nat) (0:Nat),SV.ptr (6111:Nat) (0:Nat)],[],[]))):=by kernel_rfl
theorem T_6c (d:Site) (i:Int):execC (P:=P) [] (fun _ => none) [] 111 6 (cSnd (cSnd b6)) (stOf [(6,.adr tSite d),(10,.int .i64 i),(2,.ptr 3111 0),(5,.ptr 6111 0)] [] [3111,6111]) (fun _ => none) (fun e S _ => obs [10,6,2,5] [] [] e S) =
  Tree.leaf (Exit.normal,[SV.int IntKind.i64 (IntKind.i64.wrap (i + (1:Int))),SV.adr (Ty.pair tI (Ty.pair tI (Ty.pair tI (Ty.pair tI (Ty.pair tI (Ty.pair tHs (Ty.pair tPms tI))))))) d,SV.ptr (3111:Nat) (0:Nat),SV.ptr (6111:Nat) (0:Nat)],[],[]):=by kernel_rfl
end
end Go.MB
