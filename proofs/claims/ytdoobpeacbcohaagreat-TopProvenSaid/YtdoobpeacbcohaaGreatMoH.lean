/- Entries that hand over the command, at a site where no operation goes on. -/
import Derived.Test.YtdoobpeacbcohaaGreatMoG
namespace Go.MB
open Go Go.Sx Go.Proofs
set_option linter.unusedVariables false
set_option linter.unusedSimpArgs false
noncomputable section
def offB (s:Site) (e:Entry):Bool:=!memB s.2.1 e.2.2.2.2.1 || (e.2.2.2.2.1 == s.2.2.1)
def offE (s:Site) (e:Entry):Int:=if (e.2.2.1 != s.2.2.1) = true then 10 else if offB s e = true then 2 else 0
def offO (s:Site) (e:Entry):Int:=if offE s e = 0 then e.2.2.2.2.1 else s.2.2.2.1
def takE (s:Site) (e:Entry):Int:=if (e.2.2.1 != s.2.2.2.1) = true then 10 else 0
def takH (s:Site) (e:Entry):Int:=if takE s e = 0 then e.2.2.1 else s.2.2.1
def takO (s:Site) (e:Entry):Int:=if takE s e = 0 then -1 else s.2.2.2.1
def L_deeds:Lay:={ slots:=[] }
theorem T_deeds (_:Unit):mTree (P:=P) [] (lpOf []) Tryz.f50 L_deeds true () =
  Tree.leaf { res:=SV.mp (nat_lit 100),boxes:=[],news:=[Ob.mp ([((1:Int),(80:Nat))] ++ [((2:Int),(81:Nat))] ++ [((3:Int),(82:Nat))] ++ [((4:Int),(83:Nat))] ++ [((5:Int),(84:Nat))] ++ [((6:Int),(85:Nat))] ++ [((7:Int),(86:Nat))] ++ [((8:Int),(87:Nat))] ++ [((9:Int),(88:Nat))] ++ [((10:Int),(89:Nat))])] }:=by kernel_rfl
def c_deeds:MC P:=MC.of (α:=Unit) 50 L_deeds (fun x => x) (fun x => x) (fun _ => rfl)
  (fun _ => none)
  (fun _ => ⟨.mp 100,[],[.mp [(1,80),(2,81),(3,82),(4,83),(5,84),(6,85),(7,86),(8,87),(9,88),(10,89)]]⟩) (by kernel_rfl) (by kernel_rfl) (by kernel_rfl) (by
    rintro ⟨⟩ hp
    refine m_of hm (own:=true) (by kernel_rfl) (by kernel_rfl) (by kernel_rfl) (T_deeds ()) trivial ?_
    exact rfl)
def zSite:Site:=(0,0,0,0,0,([],[],0),[],0)
theorem chkS_house {s:Site} (h:chkS s = 0):houseE s.2.2.2.2.2.1 = 0:=by
  unfold chkS at h
  split at h
  · cases h
  split at h
  · rename_i h2; exact absurd h h2
  · rename_i h2; exact Decidable.not_not.1 h2
end
end Go.MB
