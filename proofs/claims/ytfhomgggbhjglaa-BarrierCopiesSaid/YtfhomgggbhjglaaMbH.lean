/- Entries that hand over the command, at a site where no operation goes on. -/
import Derived.Test.YtfhomgggbhjglaaMbG
namespace Go.MB
open Go Go.Sx Go.Proofs
set_option linter.unusedVariables false
set_option linter.unusedSimpArgs false
noncomputable section
def L_keeps:Lay:={ slots:=[(0,.ptr 1 0),(1,.val tI)],boxes:=[(1,[.val tI,.val tI,.val tI,.val tI,.val tI,.val (.sl (.pair tI tV)),.val (.sl tIs),.val tI,.val (.sl (.pair tI (.pair tI (.pair tI .bool)))),.val tI])] }
theorem T_keeps (tick x0 x1 x2 x3 x4:Int) (x5:List (Int × V)) (x6:List (List Int)) (x7:Int) (x8:List (Int × (Int × (Int × Bool)))) (x9:Int):mTree (P:=P) [c_openS.gc,c_holds.gc] (lpOf []) Try.f73 L_keeps true ((),tick,x0,x1,x2,x3,x4,x5,x6,x7,x8,x9,()) =
  Tree.need (List.length x8 ≤ (1000:Nat)) (.cond (!opnS (x0,x1,x2,x3,x4,(x5,x6,x7),x8,x9)) (.leaf { res:=SV.bool true,boxes:=[[SV.int IntKind.i64 x0,SV.int IntKind.i64 x1,SV.int IntKind.i64 x2,SV.int IntKind.i64 x3,SV.int IntKind.i64 x4,SV.sl (Ty.pair tI tV) x5,SV.sl tIs x6,SV.int IntKind.i64 x7,SV.sl (Ty.pair tI (Ty.pair tI (Ty.pair tI Ty.bool))) x8,SV.int IntKind.i64 x9]] }) (.need (houseE (x5,x6,x7) = (0:Int)) (.leaf { res:=SV.bool (holdsS (x5,x6,x7) tick x4),boxes:=[[SV.int IntKind.i64 x0,SV.int IntKind.i64 x1,SV.int IntKind.i64 x2,SV.int IntKind.i64 x3,SV.int IntKind.i64 x4,SV.sl (Ty.pair tI tV) x5,SV.sl tIs x6,SV.int IntKind.i64 x7,SV.sl (Ty.pair tI (Ty.pair tI (Ty.pair tI Ty.bool))) x8,SV.int IntKind.i64 x9]] }))):=by kernel_rfl
def c_keeps:MC P:=MC.of (α:=Unit × Int × Int × Int × Int × Int × Int × List (Int × V) × List (List Int) × Int × List (Int × (Int × (Int × Bool))) × Int × Unit) 73 L_keeps (fun x => x) (fun x => x) (fun _ => rfl)
  (fun x => some (houseE (x.2.2.2.2.2.2.2.1,x.2.2.2.2.2.2.2.2.1,x.2.2.2.2.2.2.2.2.2.1) = 0 ∧ x.2.2.2.2.2.2.2.2.2.2.1.length ≤ 1000))
  (fun x => ⟨.bool (keepS (x.2.2.1,x.2.2.2.1,x.2.2.2.2.1,x.2.2.2.2.2.1,x.2.2.2.2.2.2.1,(x.2.2.2.2.2.2.2.1,x.2.2.2.2.2.2.2.2.1,x.2.2.2.2.2.2.2.2.2.1),x.2.2.2.2.2.2.2.2.2.2.1,x.2.2.2.2.2.2.2.2.2.2.2.1) x.2.1),[[.int .i64 x.2.2.1,.int .i64 x.2.2.2.1,.int .i64 x.2.2.2.2.1,.int .i64 x.2.2.2.2.2.1,.int .i64 x.2.2.2.2.2.2.1,.sl tEl x.2.2.2.2.2.2.2.1,.sl tIs x.2.2.2.2.2.2.2.2.1,.int .i64 x.2.2.2.2.2.2.2.2.2.1,.sl tPm x.2.2.2.2.2.2.2.2.2.2.1,.int .i64 x.2.2.2.2.2.2.2.2.2.2.2.1]],[]⟩) (by kernel_rfl) (by kernel_rfl) (by kernel_rfl) (by
    rintro ⟨⟨⟩,tick,x0,x1,x2,x3,x4,x5,x6,x7,x8,x9,⟨⟩⟩ hp
    refine m_of hm (own:=true) (by kernel_rfl) (by kernel_rfl) (by kernel_rfl) (T_keeps tick x0 x1 x2 x3 x4 x5 x6 x7 x8 x9) trivial ?_
    try dsimp only at hp
    try dsimp only
    obtain ⟨h1,h2⟩ : houseE (x5,x6,x7) = 0 ∧ x8.length ≤ 1000:=hp
    have fin:∀ n:Bool,keepS (x0,x1,x2,x3,x4,(x5,x6,x7),x8,x9) tick = n → (⟨SV.bool n,[[.int .i64 x0,.int .i64 x1,.int .i64 x2,.int .i64 x3,.int .i64 x4,.sl tEl x5,.sl tIs x6,.int .i64 x7,.sl tPm x8,.int .i64 x9]],[]⟩ : MOut) = ⟨SV.bool (keepS (x0,x1,x2,x3,x4,(x5,x6,x7),x8,x9) tick),[[.int .i64 x0,.int .i64 x1,.int .i64 x2,.int .i64 x3,.int .i64 x4,.sl tEl x5,.sl tIs x6,.int .i64 x7,.sl tPm x8,.int .i64 x9]],[]⟩:=fun n h => by rw [h]
    unfold keepS at fin
    dsimp only at fin
    refine ⟨h2,fun c1 => fin _ ?_,fun c1 => ⟨h1,fin _ ?_⟩⟩
    · rw [c1,Bool.true_or]
    · rw [c1,Bool.false_or])
def offB (s:Site) (e:Entry):Bool:=!memB s.2.1 e.2.2.2.2.1 || (e.2.2.2.2.1 == s.2.2.1)
def offE (s:Site) (e:Entry):Int:=if (e.2.2.1 != s.2.2.1) = true then 10 else if offB s e = true then 2 else 0
def offO (s:Site) (e:Entry):Int:=if offE s e = 0 then e.2.2.2.2.1 else s.2.2.2.1
def L_offer:Lay:={ slots:=[(0,.ptr 1 0),(1,.agg (.pair tI (.pair tI (.pair tI tV))))],boxes:=[(1,[.val tI,.val tI,.val tI,.val tI,.val tI,.val (.sl (.pair tI tV)),.val (.sl tIs),.val tI,.val (.sl (.pair tI (.pair tI (.pair tI .bool)))),.val tI])] }
theorem T_offer (e_0 e_1 e_2 e_3 e_4 e_5 x0 x1 x2 x3 x4:Int) (x5:List (Int × V)) (x6:List (List Int)) (x7:Int) (x8:List (Int × (Int × (Int × Bool)))) (x9:Int):mTree (P:=P) [c_member.gc] (lpOf []) Try.f88 L_offer true ((),(e_0,(e_1,(e_2,(e_3,(e_4,e_5))))),x0,x1,x2,x3,x4,x5,x6,x7,x8,x9,()) =
  Tree.cond (e_2 != x2) (.leaf { res:=SV.int IntKind.i64 (10:Int),boxes:=[[SV.int IntKind.i64 x0,SV.int IntKind.i64 x1,SV.int IntKind.i64 x2,SV.int IntKind.i64 x3,SV.int IntKind.i64 x4,SV.sl (Ty.pair tI tV) x5,SV.sl tIs x6,SV.int IntKind.i64 x7,SV.sl (Ty.pair tI (Ty.pair tI (Ty.pair tI Ty.bool))) x8,SV.int IntKind.i64 x9]] }) (.cond (!memB x1 e_4) (.leaf { res:=SV.int IntKind.i64 (2:Int),boxes:=[[SV.int IntKind.i64 x0,SV.int IntKind.i64 x1,SV.int IntKind.i64 x2,SV.int IntKind.i64 x3,SV.int IntKind.i64 x4,SV.sl (Ty.pair tI tV) x5,SV.sl tIs x6,SV.int IntKind.i64 x7,SV.sl (Ty.pair tI (Ty.pair tI (Ty.pair tI Ty.bool))) x8,SV.int IntKind.i64 x9]] }) (.cond (e_4 == x2) (.leaf { res:=SV.int IntKind.i64 (2:Int),boxes:=[[SV.int IntKind.i64 x0,SV.int IntKind.i64 x1,SV.int IntKind.i64 x2,SV.int IntKind.i64 x3,SV.int IntKind.i64 x4,SV.sl (Ty.pair tI tV) x5,SV.sl tIs x6,SV.int IntKind.i64 x7,SV.sl (Ty.pair tI (Ty.pair tI (Ty.pair tI Ty.bool))) x8,SV.int IntKind.i64 x9]] }) (.leaf { res:=SV.int IntKind.i64 (0:Int),boxes:=[[SV.int IntKind.i64 x0,SV.int IntKind.i64 x1,SV.int IntKind.i64 x2,SV.int IntKind.i64 e_4,SV.int IntKind.i64 x4,SV.sl (Ty.pair tI tV) x5,SV.sl tIs x6,SV.int IntKind.i64 x7,SV.sl (Ty.pair tI (Ty.pair tI (Ty.pair tI Ty.bool))) x8,SV.int IntKind.i64 x9]] }))):=by kernel_rfl
def c_offer:MC P:=MC.of (α:=Unit × (Int × (Int × (Int × V))) × Int × Int × Int × Int × Int × List (Int × V) × List (List Int) × Int × List (Int × (Int × (Int × Bool))) × Int × Unit) 88 L_offer (fun x => x) (fun x => x) (fun _ => rfl)
  (fun _ => none)
  (fun x => ⟨.int .i64 (offE (x.2.2.1,x.2.2.2.1,x.2.2.2.2.1,x.2.2.2.2.2.1,x.2.2.2.2.2.2.1,(x.2.2.2.2.2.2.2.1,x.2.2.2.2.2.2.2.2.1,x.2.2.2.2.2.2.2.2.2.1),x.2.2.2.2.2.2.2.2.2.2.1,x.2.2.2.2.2.2.2.2.2.2.2.1) x.2.1),[[.int .i64 x.2.2.1,.int .i64 x.2.2.2.1,.int .i64 x.2.2.2.2.1,.int .i64 (offO (x.2.2.1,x.2.2.2.1,x.2.2.2.2.1,x.2.2.2.2.2.1,x.2.2.2.2.2.2.1,(x.2.2.2.2.2.2.2.1,x.2.2.2.2.2.2.2.2.1,x.2.2.2.2.2.2.2.2.2.1),x.2.2.2.2.2.2.2.2.2.2.1,x.2.2.2.2.2.2.2.2.2.2.2.1) x.2.1),.int .i64 x.2.2.2.2.2.2.1,.sl tEl x.2.2.2.2.2.2.2.1,.sl tIs x.2.2.2.2.2.2.2.2.1,.int .i64 x.2.2.2.2.2.2.2.2.2.1,.sl tPm x.2.2.2.2.2.2.2.2.2.2.1,.int .i64 x.2.2.2.2.2.2.2.2.2.2.2.1]],[]⟩) (by kernel_rfl) (by kernel_rfl) (by kernel_rfl) (by
    rintro ⟨⟨⟩,⟨e_0,⟨e_1,⟨e_2,⟨e_3,⟨e_4,e_5⟩⟩⟩⟩⟩,x0,x1,x2,x3,x4,x5,x6,x7,x8,x9,⟨⟩⟩ hp
    refine m_of hm (own:=true) (by kernel_rfl) (by kernel_rfl) (by kernel_rfl) (T_offer e_0 e_1 e_2 e_3 e_4 e_5 x0 x1 x2 x3 x4 x5 x6 x7 x8 x9) trivial ?_
    try dsimp only at hp
    try dsimp only
    have fin:∀ n m:Int,offE (x0,x1,x2,x3,x4,(x5,x6,x7),x8,x9) (e_0,e_1,e_2,e_3,e_4,e_5) = n → offO (x0,x1,x2,x3,x4,(x5,x6,x7),x8,x9) (e_0,e_1,e_2,e_3,e_4,e_5) = m → (⟨SV.int .i64 n,[[.int .i64 x0,.int .i64 x1,.int .i64 x2,.int .i64 m,.int .i64 x4,.sl tEl x5,.sl tIs x6,.int .i64 x7,.sl tPm x8,.int .i64 x9]],[]⟩ : MOut) = ⟨.int .i64 (offE (x0,x1,x2,x3,x4,(x5,x6,x7),x8,x9) (e_0,e_1,e_2,e_3,e_4,e_5)),[[.int .i64 x0,.int .i64 x1,.int .i64 x2,.int .i64 (offO (x0,x1,x2,x3,x4,(x5,x6,x7),x8,x9) (e_0,e_1,e_2,e_3,e_4,e_5)),.int .i64 x4,.sl tEl x5,.sl tIs x6,.int .i64 x7,.sl tPm x8,.int .i64 x9]],[]⟩:=fun n m h k => by rw [h,k]
    unfold offO offE offB at fin
    dsimp only at fin
    refine ⟨fun c1 => fin _ _ ?_ ?_,fun c1 => ⟨fun c2 => fin _ _ ?_ ?_,fun c2 => ⟨fun c3 => fin _ _ ?_ ?_,fun c3 => fin _ _ ?_ ?_⟩⟩⟩
    · simp [c1]
    · simp [c1]
    · simp [c1,c2]
    · simp [c1,c2]
    · simp [c1,c2,c3]
    · simp [c1,c2,c3]
    · simp [c1,c2,c3]
    · simp [c1,c2,c3])
def takE (s:Site) (e:Entry):Int:=if (e.2.2.1 != s.2.2.2.1) = true then 10 else 0
def takH (s:Site) (e:Entry):Int:=if takE s e = 0 then e.2.2.1 else s.2.2.1
def takO (s:Site) (e:Entry):Int:=if takE s e = 0 then -1 else s.2.2.2.1
def L_take:Lay:={ slots:=[(0,.ptr 1 0),(1,.agg (.pair tI (.pair tI (.pair tI tV))))],boxes:=[(1,[.val tI,.val tI,.val tI,.val tI,.val tI,.val (.sl (.pair tI tV)),.val (.sl tIs),.val tI,.val (.sl (.pair tI (.pair tI (.pair tI .bool)))),.val tI])] }
theorem T_take (e_0 e_1 e_2 e_3 e_4 e_5 x0 x1 x2 x3 x4:Int) (x5:List (Int × V)) (x6:List (List Int)) (x7:Int) (x8:List (Int × (Int × (Int × Bool)))) (x9:Int):mTree (P:=P) [] (lpOf []) Try.f89 L_take true ((),(e_0,(e_1,(e_2,(e_3,(e_4,e_5))))),x0,x1,x2,x3,x4,x5,x6,x7,x8,x9,()) =
  Tree.cond (e_2 != x3) (.leaf { res:=SV.int IntKind.i64 (10:Int),boxes:=[[SV.int IntKind.i64 x0,SV.int IntKind.i64 x1,SV.int IntKind.i64 x2,SV.int IntKind.i64 x3,SV.int IntKind.i64 x4,SV.sl (Ty.pair tI tV) x5,SV.sl tIs x6,SV.int IntKind.i64 x7,SV.sl (Ty.pair tI (Ty.pair tI (Ty.pair tI Ty.bool))) x8,SV.int IntKind.i64 x9]] }) (.leaf { res:=SV.int IntKind.i64 (0:Int),boxes:=[[SV.int IntKind.i64 x0,SV.int IntKind.i64 x1,SV.int IntKind.i64 e_2,SV.int IntKind.i64 (-1:Int),SV.int IntKind.i64 x4,SV.sl (Ty.pair tI tV) x5,SV.sl tIs x6,SV.int IntKind.i64 x7,SV.sl (Ty.pair tI (Ty.pair tI (Ty.pair tI Ty.bool))) x8,SV.int IntKind.i64 x9]] }):=by kernel_rfl
def c_take:MC P:=MC.of (α:=Unit × (Int × (Int × (Int × V))) × Int × Int × Int × Int × Int × List (Int × V) × List (List Int) × Int × List (Int × (Int × (Int × Bool))) × Int × Unit) 89 L_take (fun x => x) (fun x => x) (fun _ => rfl)
  (fun _ => none)
  (fun x => ⟨.int .i64 (takE (x.2.2.1,x.2.2.2.1,x.2.2.2.2.1,x.2.2.2.2.2.1,x.2.2.2.2.2.2.1,(x.2.2.2.2.2.2.2.1,x.2.2.2.2.2.2.2.2.1,x.2.2.2.2.2.2.2.2.2.1),x.2.2.2.2.2.2.2.2.2.2.1,x.2.2.2.2.2.2.2.2.2.2.2.1) x.2.1),[[.int .i64 x.2.2.1,.int .i64 x.2.2.2.1,.int .i64 (takH (x.2.2.1,x.2.2.2.1,x.2.2.2.2.1,x.2.2.2.2.2.1,x.2.2.2.2.2.2.1,(x.2.2.2.2.2.2.2.1,x.2.2.2.2.2.2.2.2.1,x.2.2.2.2.2.2.2.2.2.1),x.2.2.2.2.2.2.2.2.2.2.1,x.2.2.2.2.2.2.2.2.2.2.2.1) x.2.1),.int .i64 (takO (x.2.2.1,x.2.2.2.1,x.2.2.2.2.1,x.2.2.2.2.2.1,x.2.2.2.2.2.2.1,(x.2.2.2.2.2.2.2.1,x.2.2.2.2.2.2.2.2.1,x.2.2.2.2.2.2.2.2.2.1),x.2.2.2.2.2.2.2.2.2.2.1,x.2.2.2.2.2.2.2.2.2.2.2.1) x.2.1),.int .i64 x.2.2.2.2.2.2.1,.sl tEl x.2.2.2.2.2.2.2.1,.sl tIs x.2.2.2.2.2.2.2.2.1,.int .i64 x.2.2.2.2.2.2.2.2.2.1,.sl tPm x.2.2.2.2.2.2.2.2.2.2.1,.int .i64 x.2.2.2.2.2.2.2.2.2.2.2.1]],[]⟩) (by kernel_rfl) (by kernel_rfl) (by kernel_rfl) (by
    rintro ⟨⟨⟩,⟨e_0,⟨e_1,⟨e_2,⟨e_3,⟨e_4,e_5⟩⟩⟩⟩⟩,x0,x1,x2,x3,x4,x5,x6,x7,x8,x9,⟨⟩⟩ hp
    refine m_of hm (own:=true) (by kernel_rfl) (by kernel_rfl) (by kernel_rfl) (T_take e_0 e_1 e_2 e_3 e_4 e_5 x0 x1 x2 x3 x4 x5 x6 x7 x8 x9) trivial ?_
    try dsimp only at hp
    try dsimp only
    have fin:∀ n m k:Int,takE (x0,x1,x2,x3,x4,(x5,x6,x7),x8,x9) (e_0,e_1,e_2,e_3,e_4,e_5) = n → takH (x0,x1,x2,x3,x4,(x5,x6,x7),x8,x9) (e_0,e_1,e_2,e_3,e_4,e_5) = m → takO (x0,x1,x2,x3,x4,(x5,x6,x7),x8,x9) (e_0,e_1,e_2,e_3,e_4,e_5) = k → (⟨SV.int .i64 n,[[.int .i64 x0,.int .i64 x1,.int .i64 m,.int .i64 k,.int .i64 x4,.sl tEl x5,.sl tIs x6,.int .i64 x7,.sl tPm x8,.int .i64 x9]],[]⟩ : MOut) = ⟨.int .i64 (takE (x0,x1,x2,x3,x4,(x5,x6,x7),x8,x9) (e_0,e_1,e_2,e_3,e_4,e_5)),[[.int .i64 x0,.int .i64 x1,.int .i64 (takH (x0,x1,x2,x3,x4,(x5,x6,x7),x8,x9) (e_0,e_1,e_2,e_3,e_4,e_5)),.int .i64 (takO (x0,x1,x2,x3,x4,(x5,x6,x7),x8,x9) (e_0,e_1,e_2,e_3,e_4,e_5)),.int .i64 x4,.sl tEl x5,.sl tIs x6,.int .i64 x7,.sl tPm x8,.int .i64 x9]],[]⟩:=fun n m k h1 h2 h3 => by rw [h1,h2,h3]
    unfold takH takO takE at fin
    dsimp only at fin
    refine ⟨fun c1 => fin _ _ _ ?_ ?_ ?_,fun c1 => fin _ _ _ ?_ ?_ ?_⟩
    all_goals simp [c1])
def L_deeds:Lay:={ slots:=[] }
theorem T_deeds (_:Unit):mTree (P:=P) [] (lpOf []) Try.f72 L_deeds true () =
  Tree.leaf { res:=SV.mp (nat_lit 100),boxes:=[],news:=[Ob.mp ([((1:Int),(83:Nat))] ++ [((2:Int),(84:Nat))] ++ [((3:Int),(85:Nat))] ++ [((4:Int),(86:Nat))] ++ [((5:Int),(87:Nat))] ++ [((6:Int),(88:Nat))] ++ [((7:Int),(89:Nat))] ++ [((8:Int),(90:Nat))] ++ [((9:Int),(91:Nat))] ++ [((10:Int),(92:Nat))])] }:=by kernel_rfl
def c_deeds:MC P:=MC.of (α:=Unit) 72 L_deeds (fun x => x) (fun x => x) (fun _ => rfl)
  (fun _ => none)
  (fun _ => ⟨.mp 100,[],[.mp [(1,83),(2,84),(3,85),(4,86),(5,87),(6,88),(7,89),(8,90),(9,91),(10,92)]]⟩) (by kernel_rfl) (by kernel_rfl) (by kernel_rfl) (by
    rintro ⟨⟩ hp
    refine m_of hm (own:=true) (by kernel_rfl) (by kernel_rfl) (by kernel_rfl) (T_deeds ()) trivial ?_
    exact rfl)
def zSite:Site:=(0,0,0,0,0,([],[],0),[],0)
def doS (s:Site) (e:Entry):Site × Int :=
  if wi e.1 0 1099511627776 = false then (zSite,2) else if e.1 < s.1 then (zSite,11) else if memB s.2.1 e.2.2.1 = false then (zSite,2)
  else if e.2.1 = 6 then (if offE s e ≠ 0 then (zSite,offE s e) else ((e.1,s.2.1,s.2.2.1,offO s e,s.2.2.2.2.1,s.2.2.2.2.2.1,s.2.2.2.2.2.2.1,-1),0))
  else if takE s e ≠ 0 then (zSite,takE s e) else ((e.1,s.2.1,takH s e,takO s e,s.2.2.2.2.1,s.2.2.2.2.2.1,s.2.2.2.2.2.2.1,-1),0)
def calmO (s:Site) (e:Entry):Prop:=(e.2.1 = 6 ∨ e.2.1 = 7) ∧ sOk s ∧ houseE s.2.2.2.2.2.1 = 0 ∧ opnS s = false
theorem doS_eq {s:Site} {e:Entry} (h1:wi e.1 0 1099511627776 = true) (h2:¬ e.1 < s.1) (h3:memB s.2.1 e.2.2.1 = true):doS s e = if e.2.1 = 6 then (if offE s e ≠ 0 then (zSite,offE s e) else ((e.1,s.2.1,s.2.2.1,offO s e,s.2.2.2.2.1,s.2.2.2.2.2.1,s.2.2.2.2.2.2.1,-1),0)) else if takE s e ≠ 0 then (zSite,takE s e) else ((e.1,s.2.1,takH s e,takO s e,s.2.2.2.2.1,s.2.2.2.2.2.1,s.2.2.2.2.2.2.1,-1),0):=by
  unfold doS
  rw [if_neg (by rw [h1]; decide),if_neg h2,if_neg (by rw [h3]; decide)]
theorem T_do1 (s_0 s_1 s_2 s_3 s_4:Int) (s_5:List (Int × V)) (s_6:List (List Int)) (s_7:Int) (s_8:List (Int × (Int × (Int × Bool)))) (s_9 e_0 e_1 e_2 e_3 e_4 e_5:Int):fnTree (P:=P) [c_within.gc,c_member.gc,c_deeds.gc,c_Copy.gc,c_offer.gc,c_take.gc,c_keeps.gc] (lpOf []) Try.f43 (encL 0 [.agg (.pair tI (.pair tI (.pair tI (.pair tI (.pair tI (.pair (.pair (.sl (.pair tI tV)) (.pair (.sl tIs) tI)) (.pair (.sl (.pair tI (.pair tI (.pair tI .bool)))) tI))))))),.agg (.pair tI (.pair tI (.pair tI tV)))] ((s_0,(s_1,(s_2,(s_3,(s_4,((s_5,(s_6,s_7)),(s_8,s_9))))))),(e_0,(e_1,(e_2,(e_3,(e_4,e_5))))),())) =
  Tree.cond (!wi e_0 (0:Int) (1099511627776:Int)) (.leaf (SV.tup [SV.agg [SV.int IntKind.i64 (0:Int),SV.int IntKind.i64 (0:Int),SV.int IntKind.i64 (0:Int),SV.int IntKind.i64 (0:Int),SV.int IntKind.i64 (0:Int),SV.nils,SV.nils,SV.int IntKind.i64 (0:Int),SV.nils,SV.int IntKind.i64 (0:Int)],SV.int IntKind.i64 (2:Int)])) (.cond (decide (e_0 < s_0)) (.leaf (SV.tup [SV.agg [SV.int IntKind.i64 (0:Int),SV.int IntKind.i64 (0:Int),SV.int IntKind.i64 (0:Int),SV.int IntKind.i64 (0:Int),SV.int IntKind.i64 (0:Int),SV.nils,SV.nils,SV.int IntKind.i64 (0:Int),SV.nils,SV.int IntKind.i64 (0:Int)],SV.int IntKind.i64 (11:Int)])) (.cond (!memB s_1 e_2) (.leaf (SV.tup [SV.agg [SV.int IntKind.i64 (0:Int),SV.int IntKind.i64 (0:Int),SV.int IntKind.i64 (0:Int),SV.int IntKind.i64 (0:Int),SV.int IntKind.i64 (0:Int),SV.nils,SV.nils,SV.int IntKind.i64 (0:Int),SV.nils,SV.int IntKind.i64 (0:Int)],SV.int IntKind.i64 (2:Int)])) (.cond (decide (e_1 = (1:Int))) (.cond false (.leaf (SV.tup [SV.agg [SV.int IntKind.i64 (0:Int),SV.int IntKind.i64 (0:Int),SV.int IntKind.i64 (0:Int),SV.int IntKind.i64 (0:Int),SV.int IntKind.i64 (0:Int),SV.nils,SV.nils,SV.int IntKind.i64 (0:Int),SV.nils,SV.int IntKind.i64 (0:Int)],SV.int IntKind.i64 (4:Int)])) (.need (sOk (s_0,s_1,s_2,s_3,s_4,(s_5,s_6,s_7),s_8,s_9)) (Tree.fail (1046:Nat)))) (.cond (decide (e_1 = (2:Int))) (.cond false (.leaf (SV.tup [SV.agg [SV.int IntKind.i64 (0:Int),SV.int IntKind.i64 (0:Int),SV.int IntKind.i64 (0:Int),SV.int IntKind.i64 (0:Int),SV.int IntKind.i64 (0:Int),SV.nils,SV.nils,SV.int IntKind.i64 (0:Int),SV.nils,SV.int IntKind.i64 (0:Int)],SV.int IntKind.i64 (4:Int)])) (.need (sOk (s_0,s_1,s_2,s_3,s_4,(s_5,s_6,s_7),s_8,s_9)) (Tree.fail (1046:Nat)))) (.cond (decide (e_1 = (3:Int))) (.cond false (.leaf (SV.tup [SV.agg [SV.int IntKind.i64 (0:Int),SV.int IntKind.i64 (0:Int),SV.int IntKind.i64 (0:Int),SV.int IntKind.i64 (0:Int),SV.int IntKind.i64 (0:Int),SV.nils,SV.nils,SV.int IntKind.i64 (0:Int),SV.nils,SV.int IntKind.i64 (0:Int)],SV.int IntKind.i64 (4:Int)])) (.need (sOk (s_0,s_1,s_2,s_3,s_4,(s_5,s_6,s_7),s_8,s_9)) (Tree.fail (1046:Nat)))) (.cond (decide (e_1 = (4:Int))) (.cond false (.leaf (SV.tup [SV.agg [SV.int IntKind.i64 (0:Int),SV.int IntKind.i64 (0:Int),SV.int IntKind.i64 (0:Int),SV.int IntKind.i64 (0:Int),SV.int IntKind.i64 (0:Int),SV.nils,SV.nils,SV.int IntKind.i64 (0:Int),SV.nils,SV.int IntKind.i64 (0:Int)],SV.int IntKind.i64 (4:Int)])) (.need (sOk (s_0,s_1,s_2,s_3,s_4,(s_5,s_6,s_7),s_8,s_9)) (Tree.fail (1046:Nat)))) (.cond (decide (e_1 = (5:Int))) (.cond false (.leaf (SV.tup [SV.agg [SV.int IntKind.i64 (0:Int),SV.int IntKind.i64 (0:Int),SV.int IntKind.i64 (0:Int),SV.int IntKind.i64 (0:Int),SV.int IntKind.i64 (0:Int),SV.nils,SV.nils,SV.int IntKind.i64 (0:Int),SV.nils,SV.int IntKind.i64 (0:Int)],SV.int IntKind.i64 (4:Int)])) (.need (sOk (s_0,s_1,s_2,s_3,s_4,(s_5,s_6,s_7),s_8,s_9)) (Tree.fail (1046:Nat)))) (.cond (decide (e_1 = (6:Int))) (.cond false (.leaf (SV.tup [SV.agg [SV.int IntKind.i64 (0:Int),SV.int IntKind.i64 (0:Int),SV.int IntKind.i64 (0:Int),SV.int IntKind.i64 (0:Int),SV.int IntKind.i64 (0:Int),SV.nils,SV.nils,SV.int IntKind.i64 (0:Int),SV.nils,SV.int IntKind.i64 (0:Int)],SV.int IntKind.i64 (4:Int)])) (.need (sOk (s_0,s_1,s_2,s_3,s_4,(s_5,s_6,s_7),s_8,s_9)) (.cond (offE (s_0,s_1,s_2,s_3,s_4,(s_5,s_6,s_7),s_8,s_9) (e_0,e_1,e_2,e_3,e_4,e_5) != (0:Int)) (.leaf (SV.tup [SV.agg [SV.int IntKind.i64 (0:Int),SV.int IntKind.i64 (0:Int),SV.int IntKind.i64 (0:Int),SV.int IntKind.i64 (0:Int),SV.int IntKind.i64 (0:Int),SV.nils,SV.nils,SV.int IntKind.i64 (0:Int),SV.nils,SV.int IntKind.i64 (0:Int)],SV.int IntKind.i64 (offE (s_0,s_1,s_2,s_3,s_4,(s_5,s_6,s_7),s_8,s_9) (e_0,e_1,e_2,e_3,e_4,e_5))])) (.need (houseE (s_5,s_6,s_7) = (0:Int) ∧ List.length s_8 ≤ (1000:Nat)) (.cond (keepS (e_0,s_1,s_2,offO (s_0,s_1,s_2,s_3,s_4,(s_5,s_6,s_7),s_8,s_9) (e_0,e_1,e_2,e_3,e_4,e_5),s_4,(s_5,s_6,s_7),s_8,s_9) e_0) (.leaf (SV.tup [SV.agg [SV.int IntKind.i64 e_0,SV.int IntKind.i64 s_1,SV.int IntKind.i64 s_2,SV.int IntKind.i64 (offO (s_0,s_1,s_2,s_3,s_4,(s_5,s_6,s_7),s_8,s_9) (e_0,e_1,e_2,e_3,e_4,e_5)),SV.int IntKind.i64 s_4,SV.sl (Ty.pair tI (Ty.pair tI (Ty.pair tI tI))) s_5,SV.sl (Ty.sl tI) s_6,SV.int IntKind.i64 s_7,SV.sl (Ty.pair tI (Ty.pair tI (Ty.pair tI Ty.bool))) s_8,SV.int IntKind.i64 (-1:Int)],SV.int IntKind.i64 (0:Int)])) (.cond (s_9 == (-1:Int)) (Tree.fail (1075:Nat)) (.leaf (SV.tup [SV.agg [SV.int IntKind.i64 e_0,SV.int IntKind.i64 s_1,SV.int IntKind.i64 s_2,SV.int IntKind.i64 (offO (s_0,s_1,s_2,s_3,s_4,(s_5,s_6,s_7),s_8,s_9) (e_0,e_1,e_2,e_3,e_4,e_5)),SV.int IntKind.i64 s_4,SV.sl (Ty.pair tI (Ty.pair tI (Ty.pair tI tI))) s_5,SV.sl (Ty.sl tI) s_6,SV.int IntKind.i64 s_7,SV.sl (Ty.pair tI (Ty.pair tI (Ty.pair tI Ty.bool))) s_8,SV.int IntKind.i64 s_9],SV.int IntKind.i64 (0:Int)])))))))) (.cond (decide (e_1 = (7:Int))) (.cond false (.leaf (SV.tup [SV.agg [SV.int IntKind.i64 (0:Int),SV.int IntKind.i64 (0:Int),SV.int IntKind.i64 (0:Int),SV.int IntKind.i64 (0:Int),SV.int IntKind.i64 (0:Int),SV.nils,SV.nils,SV.int IntKind.i64 (0:Int),SV.nils,SV.int IntKind.i64 (0:Int)],SV.int IntKind.i64 (4:Int)])) (.need (sOk (s_0,s_1,s_2,s_3,s_4,(s_5,s_6,s_7),s_8,s_9)) (.cond (takE (s_0,s_1,s_2,s_3,s_4,(s_5,s_6,s_7),s_8,s_9) (e_0,e_1,e_2,e_3,e_4,e_5) != (0:Int)) (.leaf (SV.tup [SV.agg [SV.int IntKind.i64 (0:Int),SV.int IntKind.i64 (0:Int),SV.int IntKind.i64 (0:Int),SV.int IntKind.i64 (0:Int),SV.int IntKind.i64 (0:Int),SV.nils,SV.nils,SV.int IntKind.i64 (0:Int),SV.nils,SV.int IntKind.i64 (0:Int)],SV.int IntKind.i64 (takE (s_0,s_1,s_2,s_3,s_4,(s_5,s_6,s_7),s_8,s_9) (e_0,e_1,e_2,e_3,e_4,e_5))])) (.need (houseE (s_5,s_6,s_7) = (0:Int) ∧ List.length s_8 ≤ (1000:Nat)) (.cond (keepS (e_0,s_1,takH (s_0,s_1,s_2,s_3,s_4,(s_5,s_6,s_7),s_8,s_9) (e_0,e_1,e_2,e_3,e_4,e_5),takO (s_0,s_1,s_2,s_3,s_4,(s_5,s_6,s_7),s_8,s_9) (e_0,e_1,e_2,e_3,e_4,e_5),s_4,(s_5,s_6,s_7),s_8,s_9) e_0) (.leaf (SV.tup [SV.agg [SV.int IntKind.i64 e_0,SV.int IntKind.i64 s_1,SV.int IntKind.i64 (takH (s_0,s_1,s_2,s_3,s_4,(s_5,s_6,s_7),s_8,s_9) (e_0,e_1,e_2,e_3,e_4,e_5)),SV.int IntKind.i64 (takO (s_0,s_1,s_2,s_3,s_4,(s_5,s_6,s_7),s_8,s_9) (e_0,e_1,e_2,e_3,e_4,e_5)),SV.int IntKind.i64 s_4,SV.sl (Ty.pair tI (Ty.pair tI (Ty.pair tI tI))) s_5,SV.sl (Ty.sl tI) s_6,SV.int IntKind.i64 s_7,SV.sl (Ty.pair tI (Ty.pair tI (Ty.pair tI Ty.bool))) s_8,SV.int IntKind.i64 (-1:Int)],SV.int IntKind.i64 (0:Int)])) (.cond (s_9 == (-1:Int)) (Tree.fail (1075:Nat)) (.leaf (SV.tup [SV.agg [SV.int IntKind.i64 e_0,SV.int IntKind.i64 s_1,SV.int IntKind.i64 (takH (s_0,s_1,s_2,s_3,s_4,(s_5,s_6,s_7),s_8,s_9) (e_0,e_1,e_2,e_3,e_4,e_5)),SV.int IntKind.i64 (takO (s_0,s_1,s_2,s_3,s_4,(s_5,s_6,s_7),s_8,s_9) (e_0,e_1,e_2,e_3,e_4,e_5)),SV.int IntKind.i64 s_4,SV.sl (Ty.pair tI (Ty.pair tI (Ty.pair tI tI))) s_5,SV.sl (Ty.sl tI) s_6,SV.int IntKind.i64 s_7,SV.sl (Ty.pair tI (Ty.pair tI (Ty.pair tI Ty.bool))) s_8,SV.int IntKind.i64 s_9],SV.int IntKind.i64 (0:Int)])))))))) (.cond (decide (e_1 = (8:Int))) (.cond false (.leaf (SV.tup [SV.agg [SV.int IntKind.i64 (0:Int),SV.int IntKind.i64 (0:Int),SV.int IntKind.i64 (0:Int),SV.int IntKind.i64 (0:Int),SV.int IntKind.i64 (0:Int),SV.nils,SV.nils,SV.int IntKind.i64 (0:Int),SV.nils,SV.int IntKind.i64 (0:Int)],SV.int IntKind.i64 (4:Int)])) (.need (sOk (s_0,s_1,s_2,s_3,s_4,(s_5,s_6,s_7),s_8,s_9)) (Tree.fail (1046:Nat)))) (.cond (decide (e_1 = (9:Int))) (.cond false (.leaf (SV.tup [SV.agg [SV.int IntKind.i64 (0:Int),SV.int IntKind.i64 (0:Int),SV.int IntKind.i64 (0:Int),SV.int IntKind.i64 (0:Int),SV.int IntKind.i64 (0:Int),SV.nils,SV.nils,SV.int IntKind.i64 (0:Int),SV.nils,SV.int IntKind.i64 (0:Int)],SV.int IntKind.i64 (4:Int)])) (.need (sOk (s_0,s_1,s_2,s_3,s_4,(s_5,s_6,s_7),s_8,s_9)) (Tree.fail (1046:Nat)))) (.cond (decide (e_1 = (10:Int))) (.cond false (.leaf (SV.tup [SV.agg [SV.int IntKind.i64 (0:Int),SV.int IntKind.i64 (0:Int),SV.int IntKind.i64 (0:Int),SV.int IntKind.i64 (0:Int),SV.int IntKind.i64 (0:Int),SV.nils,SV.nils,SV.int IntKind.i64 (0:Int),SV.nils,SV.int IntKind.i64 (0:Int)],SV.int IntKind.i64 (4:Int)])) (.need (sOk (s_0,s_1,s_2,s_3,s_4,(s_5,s_6,s_7),s_8,s_9)) (Tree.fail (1046:Nat)))) (.need (findI [((1:Int),(83:FuncId)),((2:Int),(84:FuncId)),((3:Int),(85:FuncId)),((4:Int),(86:FuncId)),((5:Int),(87:FuncId)),((6:Int),(88:FuncId)),((7:Int),(89:FuncId)),((8:Int),(90:FuncId)),((9:Int),(91:FuncId)),((10:Int),(92:FuncId))] e_1 = none) (.cond true (.leaf (SV.tup [SV.agg [SV.int IntKind.i64 (0:Int),SV.int IntKind.i64 (0:Int),SV.int IntKind.i64 (0:Int),SV.int IntKind.i64 (0:Int),SV.int IntKind.i64 (0:Int),SV.nils,SV.nils,SV.int IntKind.i64 (0:Int),SV.nils,SV.int IntKind.i64 (0:Int)],SV.int IntKind.i64 (4:Int)])) (.need (sOk (s_0,s_1,s_2,s_3,s_4,(s_5,s_6,s_7),s_8,s_9)) (Tree.fail (1046:Nat))))))))))))))))):=by kernel_rfl
def c_do1:PC P:=PC.of (α:=(Int × (Int × (Int × (Int × (Int × ((List (Int × V) × (List (List Int) × Int)) × (List (Int × (Int × (Int × Bool))) × Int))))))) × (Int × (Int × (Int × V))) × Unit) 43 [.agg (.pair tI (.pair tI (.pair tI (.pair tI (.pair tI (.pair (.pair (.sl (.pair tI tV)) (.pair (.sl tIs) tI)) (.pair (.sl (.pair tI (.pair tI (.pair tI .bool)))) tI))))))),.agg (.pair tI (.pair tI (.pair tI tV)))] (fun x => x) (fun x => x) (fun _ => rfl)
  (fun x => some (calmO x.1 x.2.1))
  (fun x => .tup [.agg [.int .i64 (doS x.1 x.2.1).1.1,.int .i64 (doS x.1 x.2.1).1.2.1,.int .i64 (doS x.1 x.2.1).1.2.2.1,.int .i64 (doS x.1 x.2.1).1.2.2.2.1,.int .i64 (doS x.1 x.2.1).1.2.2.2.2.1,.sl tEl (doS x.1 x.2.1).1.2.2.2.2.2.1.1,.sl tIs (doS x.1 x.2.1).1.2.2.2.2.2.1.2.1,.int .i64 (doS x.1 x.2.1).1.2.2.2.2.2.1.2.2,.sl tPm (doS x.1 x.2.1).1.2.2.2.2.2.2.1,.int .i64 (doS x.1 x.2.1).1.2.2.2.2.2.2.2],.int .i64 (doS x.1 x.2.1).2]) (by kernel_rfl) (by
    rintro ⟨⟨s_0,⟨s_1,⟨s_2,⟨s_3,⟨s_4,⟨⟨s_5,⟨s_6,s_7⟩⟩,⟨s_8,s_9⟩⟩⟩⟩⟩⟩⟩,⟨e_0,⟨e_1,⟨e_2,⟨e_3,⟨e_4,e_5⟩⟩⟩⟩⟩,⟨⟩⟩ hp
    refine fn_le hm (by kernel_rfl) (by kernel_rfl) (T_do1 s_0 s_1 s_2 s_3 s_4 s_5 s_6 s_7 s_8 s_9 e_0 e_1 e_2 e_3 e_4 e_5) trivial (by kernel_rfl) ?_
    try dsimp only at hp
    try dsimp only
    obtain ⟨hk,hs,hh,ho⟩ : calmO (s_0,s_1,s_2,s_3,s_4,(s_5,s_6,s_7),s_8,s_9) (e_0,e_1,e_2,e_3,e_4,e_5):=hp
    have hk:e_1 = 6 ∨ e_1 = 7:=hk
    have hl:s_8.length ≤ 1000:=hs.2
    have kp:∀ a c d t,keepS (a,s_1,c,d,s_4,(s_5,s_6,s_7),s_8,s_9) t = true:=fun a c d t => by
      unfold keepS
      rw [show opnS (a,s_1,c,d,s_4,(s_5,s_6,s_7),s_8,s_9) = false from ho]; rfl
    have bad:∀ n,doS (s_0,s_1,s_2,s_3,s_4,(s_5,s_6,s_7),s_8,s_9) (e_0,e_1,e_2,e_3,e_4,e_5) = (zSite,n) → LeS (SV.tup [.agg [.int .i64 0,.int .i64 0,.int .i64 0,.int .i64 0,.int .i64 0,.nils,.nils,.int .i64 0,.nils,.int .i64 0],.int .i64 n]) (SV.tup [.agg [.int .i64 (doS (s_0,s_1,s_2,s_3,s_4,(s_5,s_6,s_7),s_8,s_9) (e_0,e_1,e_2,e_3,e_4,e_5)).1.1,.int .i64 (doS (s_0,s_1,s_2,s_3,s_4,(s_5,s_6,s_7),s_8,s_9) (e_0,e_1,e_2,e_3,e_4,e_5)).1.2.1,.int .i64 (doS (s_0,s_1,s_2,s_3,s_4,(s_5,s_6,s_7),s_8,s_9) (e_0,e_1,e_2,e_3,e_4,e_5)).1.2.2.1,.int .i64 (doS (s_0,s_1,s_2,s_3,s_4,(s_5,s_6,s_7),s_8,s_9) (e_0,e_1,e_2,e_3,e_4,e_5)).1.2.2.2.1,.int .i64 (doS (s_0,s_1,s_2,s_3,s_4,(s_5,s_6,s_7),s_8,s_9) (e_0,e_1,e_2,e_3,e_4,e_5)).1.2.2.2.2.1,.sl tEl (doS (s_0,s_1,s_2,s_3,s_4,(s_5,s_6,s_7),s_8,s_9) (e_0,e_1,e_2,e_3,e_4,e_5)).1.2.2.2.2.2.1.1,.sl tIs (doS (s_0,s_1,s_2,s_3,s_4,(s_5,s_6,s_7),s_8,s_9) (e_0,e_1,e_2,e_3,e_4,e_5)).1.2.2.2.2.2.1.2.1,.int .i64 (doS (s_0,s_1,s_2,s_3,s_4,(s_5,s_6,s_7),s_8,s_9) (e_0,e_1,e_2,e_3,e_4,e_5)).1.2.2.2.2.2.1.2.2,.sl tPm (doS (s_0,s_1,s_2,s_3,s_4,(s_5,s_6,s_7),s_8,s_9) (e_0,e_1,e_2,e_3,e_4,e_5)).1.2.2.2.2.2.2.1,.int .i64 (doS (s_0,s_1,s_2,s_3,s_4,(s_5,s_6,s_7),s_8,s_9) (e_0,e_1,e_2,e_3,e_4,e_5)).1.2.2.2.2.2.2.2],.int .i64 (doS (s_0,s_1,s_2,s_3,s_4,(s_5,s_6,s_7),s_8,s_9) (e_0,e_1,e_2,e_3,e_4,e_5)).2]):=fun n h => by
      rw [h]
      exact ⟨⟨rfl,rfl,rfl,rfl,rfl,rfl,rfl,rfl,rfl,rfl,trivial⟩,rfl,trivial⟩
    have good:∀ a b c d g:Int,∀ x9:Int,doS (s_0,s_1,s_2,s_3,s_4,(s_5,s_6,s_7),s_8,s_9) (e_0,e_1,e_2,e_3,e_4,e_5) = ((a,b,c,d,g,(s_5,s_6,s_7),s_8,x9),0) → LeS (SV.tup [.agg [.int .i64 a,.int .i64 b,.int .i64 c,.int .i64 d,.int .i64 g,.sl tEl s_5,.sl tIs s_6,.int .i64 s_7,.sl tPm s_8,.int .i64 x9],.int .i64 0]) (SV.tup [.agg [.int .i64 (doS (s_0,s_1,s_2,s_3,s_4,(s_5,s_6,s_7),s_8,s_9) (e_0,e_1,e_2,e_3,e_4,e_5)).1.1,.int .i64 (doS (s_0,s_1,s_2,s_3,s_4,(s_5,s_6,s_7),s_8,s_9) (e_0,e_1,e_2,e_3,e_4,e_5)).1.2.1,.int .i64 (doS (s_0,s_1,s_2,s_3,s_4,(s_5,s_6,s_7),s_8,s_9) (e_0,e_1,e_2,e_3,e_4,e_5)).1.2.2.1,.int .i64 (doS (s_0,s_1,s_2,s_3,s_4,(s_5,s_6,s_7),s_8,s_9) (e_0,e_1,e_2,e_3,e_4,e_5)).1.2.2.2.1,.int .i64 (doS (s_0,s_1,s_2,s_3,s_4,(s_5,s_6,s_7),s_8,s_9) (e_0,e_1,e_2,e_3,e_4,e_5)).1.2.2.2.2.1,.sl tEl (doS (s_0,s_1,s_2,s_3,s_4,(s_5,s_6,s_7),s_8,s_9) (e_0,e_1,e_2,e_3,e_4,e_5)).1.2.2.2.2.2.1.1,.sl tIs (doS (s_0,s_1,s_2,s_3,s_4,(s_5,s_6,s_7),s_8,s_9) (e_0,e_1,e_2,e_3,e_4,e_5)).1.2.2.2.2.2.1.2.1,.int .i64 (doS (s_0,s_1,s_2,s_3,s_4,(s_5,s_6,s_7),s_8,s_9) (e_0,e_1,e_2,e_3,e_4,e_5)).1.2.2.2.2.2.1.2.2,.sl tPm (doS (s_0,s_1,s_2,s_3,s_4,(s_5,s_6,s_7),s_8,s_9) (e_0,e_1,e_2,e_3,e_4,e_5)).1.2.2.2.2.2.2.1,.int .i64 (doS (s_0,s_1,s_2,s_3,s_4,(s_5,s_6,s_7),s_8,s_9) (e_0,e_1,e_2,e_3,e_4,e_5)).1.2.2.2.2.2.2.2],.int .i64 (doS (s_0,s_1,s_2,s_3,s_4,(s_5,s_6,s_7),s_8,s_9) (e_0,e_1,e_2,e_3,e_4,e_5)).2]):=fun a b c d g x9 h => by
      rw [h]
      exact ⟨⟨rfl,rfl,rfl,rfl,rfl,rfl,rfl,rfl,rfl,rfl,trivial⟩,rfl,trivial⟩
    refine ⟨fun c1 => bad _ ?_,fun c1 => ⟨fun c2 => bad _ ?_,fun c2 => ⟨fun c3 => bad _ ?_,fun c3 => ?_⟩⟩⟩
    · unfold doS; rw [if_pos (by simpa using c1)]
    · unfold doS; rw [if_neg (by simpa using c1),if_pos (of_decide_eq_true c2)]
    · unfold doS; rw [if_neg (by simpa using c1),if_neg (of_decide_eq_false c2),if_pos (by simpa using c3)]
    have dS:=doS_eq (s:=(s_0,s_1,s_2,s_3,s_4,(s_5,s_6,s_7),s_8,s_9)) (e:=(e_0,e_1,e_2,e_3,e_4,e_5)) (by simpa using c1) (of_decide_eq_false c2) (by simpa using c3)
    refine ⟨fun k1 => absurd (of_decide_eq_true k1) (by omega),fun _ => ⟨fun k2 => absurd (of_decide_eq_true k2) (by omega),fun _ => ⟨fun k3 => absurd (of_decide_eq_true k3) (by omega),fun _ => ⟨fun k4 => absurd (of_decide_eq_true k4) (by omega),fun _ => ⟨fun k5 => absurd (of_decide_eq_true k5) (by omega),fun _ => ⟨fun k6 => ⟨fun h => (by cases h),fun _ => ⟨hs,fun d1 => bad _ ?_,fun d1 => ⟨⟨hh,hl⟩,fun d2 => good _ _ _ _ _ _ ?_,fun d2 => absurd (kp _ _ _ _) (by rw [d2]; decide)⟩⟩⟩,fun k6 => ⟨fun k7 => ⟨fun h => (by cases h),fun _ => ⟨hs,fun d1 => bad _ ?_,fun d1 => ⟨⟨hh,hl⟩,fun d2 => good _ _ _ _ _ _ ?_,fun d2 => absurd (kp _ _ _ _) (by rw [d2]; decide)⟩⟩⟩,fun k7 => (hk.elim (of_decide_eq_false k6) (of_decide_eq_false k7)).elim⟩⟩⟩⟩⟩⟩⟩
    · rw [dS,if_pos (of_decide_eq_true k6),if_pos (by simpa using d1)]
    · rw [dS,if_pos (of_decide_eq_true k6),if_neg (by simpa using d1)]
    · rw [dS,if_neg (of_decide_eq_false k6),if_pos (by simpa using d1)]
    · rw [dS,if_neg (of_decide_eq_false k6),if_neg (by simpa using d1)])
theorem chkS_house {s:Site} (h:chkS s = 0):houseE s.2.2.2.2.2.1 = 0:=by
  unfold chkS at h
  split at h
  · cases h
  split at h
  · rename_i h2; exact absurd h h2
  · rename_i h2; exact Decidable.not_not.1 h2
theorem T_Do1 (s_0 s_1 s_2 s_3 s_4:Int) (s_5:List (Int × V)) (s_6:List (List Int)) (s_7:Int) (s_8:List (Int × (Int × (Int × Bool)))) (s_9 e_0 e_1 e_2 e_3 e_4 e_5:Int):fnTree (P:=P) [c_Check.gc,c_do1.gc] (lpOf []) Try.f13 (encL 0 [.agg (.pair tI (.pair tI (.pair tI (.pair tI (.pair tI (.pair (.pair (.sl (.pair tI tV)) (.pair (.sl tIs) tI)) (.pair (.sl (.pair tI (.pair tI (.pair tI .bool)))) tI))))))),.agg (.pair tI (.pair tI (.pair tI tV)))] ((s_0,(s_1,(s_2,(s_3,(s_4,((s_5,(s_6,s_7)),(s_8,s_9))))))),(e_0,(e_1,(e_2,(e_3,(e_4,e_5))))),())) =
  Tree.need (sOk (s_0,s_1,s_2,s_3,s_4,(s_5,s_6,s_7),s_8,s_9)) (.cond (chkS (s_0,s_1,s_2,s_3,s_4,(s_5,s_6,s_7),s_8,s_9) != (0:Int)) (.leaf (SV.tup [SV.agg [SV.int IntKind.i64 (0:Int),SV.int IntKind.i64 (0:Int),SV.int IntKind.i64 (0:Int),SV.int IntKind.i64 (0:Int),SV.int IntKind.i64 (0:Int),SV.nils,SV.nils,SV.int IntKind.i64 (0:Int),SV.nils,SV.int IntKind.i64 (0:Int)],SV.int IntKind.i64 (chkS (s_0,s_1,s_2,s_3,s_4,(s_5,s_6,s_7),s_8,s_9))])) (.need (calmO (s_0,s_1,s_2,s_3,s_4,(s_5,s_6,s_7),s_8,s_9) (e_0,e_1,e_2,e_3,e_4,e_5)) (.leaf (SV.tup [SV.agg [SV.int IntKind.i64 (doS (s_0,s_1,s_2,s_3,s_4,(s_5,s_6,s_7),s_8,s_9) (e_0,e_1,e_2,e_3,e_4,e_5)).fst.fst,SV.int IntKind.i64 (doS (s_0,s_1,s_2,s_3,s_4,(s_5,s_6,s_7),s_8,s_9) (e_0,e_1,e_2,e_3,e_4,e_5)).fst.snd.fst,SV.int IntKind.i64 (doS (s_0,s_1,s_2,s_3,s_4,(s_5,s_6,s_7),s_8,s_9) (e_0,e_1,e_2,e_3,e_4,e_5)).fst.snd.snd.fst,SV.int IntKind.i64 (doS (s_0,s_1,s_2,s_3,s_4,(s_5,s_6,s_7),s_8,s_9) (e_0,e_1,e_2,e_3,e_4,e_5)).fst.snd.snd.snd.fst,SV.int IntKind.i64 (doS (s_0,s_1,s_2,s_3,s_4,(s_5,s_6,s_7),s_8,s_9) (e_0,e_1,e_2,e_3,e_4,e_5)).fst.snd.snd.snd.snd.fst,SV.sl (Ty.pair tI (Ty.pair tI (Ty.pair tI tI))) (doS (s_0,s_1,s_2,s_3,s_4,(s_5,s_6,s_7),s_8,s_9) (e_0,e_1,e_2,e_3,e_4,e_5)).fst.snd.snd.snd.snd.snd.fst.fst,SV.sl (Ty.sl tI) (doS (s_0,s_1,s_2,s_3,s_4,(s_5,s_6,s_7),s_8,s_9) (e_0,e_1,e_2,e_3,e_4,e_5)).fst.snd.snd.snd.snd.snd.fst.snd.fst,SV.int IntKind.i64 (doS (s_0,s_1,s_2,s_3,s_4,(s_5,s_6,s_7),s_8,s_9) (e_0,e_1,e_2,e_3,e_4,e_5)).fst.snd.snd.snd.snd.snd.fst.snd.snd,SV.sl (Ty.pair tI (Ty.pair tI (Ty.pair tI Ty.bool))) (doS (s_0,s_1,s_2,s_3,s_4,(s_5,s_6,s_7),s_8,s_9) (e_0,e_1,e_2,e_3,e_4,e_5)).fst.snd.snd.snd.snd.snd.snd.fst,SV.int IntKind.i64 (doS (s_0,s_1,s_2,s_3,s_4,(s_5,s_6,s_7),s_8,s_9) (e_0,e_1,e_2,e_3,e_4,e_5)).fst.snd.snd.snd.snd.snd.snd.snd],SV.int IntKind.i64 (doS (s_0,s_1,s_2,s_3,s_4,(s_5,s_6,s_7),s_8,s_9) (e_0,e_1,e_2,e_3,e_4,e_5)).snd])))):=by kernel_rfl
def c_Do1:PC P:=PC.of (α:=(Int × (Int × (Int × (Int × (Int × ((List (Int × V) × (List (List Int) × Int)) × (List (Int × (Int × (Int × Bool))) × Int))))))) × (Int × (Int × (Int × V))) × Unit) 13 [.agg (.pair tI (.pair tI (.pair tI (.pair tI (.pair tI (.pair (.pair (.sl (.pair tI tV)) (.pair (.sl tIs) tI)) (.pair (.sl (.pair tI (.pair tI (.pair tI .bool)))) tI))))))),.agg (.pair tI (.pair tI (.pair tI tV)))] (fun x => x) (fun x => x) (fun _ => rfl)
  (fun x => some ((x.2.1.2.1 = 6 ∨ x.2.1.2.1 = 7) ∧ chkS x.1 = 0 ∧ sOk x.1 ∧ opnS x.1 = false))
  (fun x => .tup [.agg [.int .i64 (doS x.1 x.2.1).1.1,.int .i64 (doS x.1 x.2.1).1.2.1,.int .i64 (doS x.1 x.2.1).1.2.2.1,.int .i64 (doS x.1 x.2.1).1.2.2.2.1,.int .i64 (doS x.1 x.2.1).1.2.2.2.2.1,.sl tEl (doS x.1 x.2.1).1.2.2.2.2.2.1.1,.sl tIs (doS x.1 x.2.1).1.2.2.2.2.2.1.2.1,.int .i64 (doS x.1 x.2.1).1.2.2.2.2.2.1.2.2,.sl tPm (doS x.1 x.2.1).1.2.2.2.2.2.2.1,.int .i64 (doS x.1 x.2.1).1.2.2.2.2.2.2.2],.int .i64 (doS x.1 x.2.1).2]) (by kernel_rfl) (by
    rintro ⟨⟨s_0,⟨s_1,⟨s_2,⟨s_3,⟨s_4,⟨⟨s_5,⟨s_6,s_7⟩⟩,⟨s_8,s_9⟩⟩⟩⟩⟩⟩⟩,⟨e_0,⟨e_1,⟨e_2,⟨e_3,⟨e_4,e_5⟩⟩⟩⟩⟩,⟨⟩⟩ hp
    refine fn_le hm (by kernel_rfl) (by kernel_rfl) (T_Do1 s_0 s_1 s_2 s_3 s_4 s_5 s_6 s_7 s_8 s_9 e_0 e_1 e_2 e_3 e_4 e_5) trivial (by kernel_rfl) ?_
    try dsimp only at hp
    try dsimp only
    obtain ⟨hk,hc,hs,ho⟩ : (e_1 = 6 ∨ e_1 = 7) ∧ chkS (s_0,s_1,s_2,s_3,s_4,(s_5,s_6,s_7),s_8,s_9) = 0 ∧ sOk (s_0,s_1,s_2,s_3,s_4,(s_5,s_6,s_7),s_8,s_9) ∧ opnS (s_0,s_1,s_2,s_3,s_4,(s_5,s_6,s_7),s_8,s_9) = false:=hp
    exact ⟨hs,fun d => absurd hc (by simpa using d),fun d => ⟨⟨hk,hs,chkS_house hc,ho⟩,⟨⟨rfl,rfl,rfl,rfl,rfl,rfl,rfl,rfl,rfl,rfl,trivial⟩,rfl,trivial⟩⟩⟩)
def shownH:Hs:=([(2,1000,0,100),(2,2000,0,100),(2,1500,0,50),(1,0,0,0)],[[0,1],[1,2],[2],[3]],2)
theorem T_shown (_:Unit):fnTree (P:=P) [] (lpOf []) Try.f44 (encL 0 [] ()) =
  Tree.leaf (SV.agg [SV.sl (Ty.pair (Ty.int IntKind.i64) (Ty.pair (Ty.int IntKind.i64) (Ty.pair (Ty.int IntKind.i64) (Ty.int IntKind.i64)))) [((2:Int),(1000:Int),(0:Int),(100:Int)),((2:Int),(2000:Int),(0:Int),(100:Int)),((2:Int),(1500:Int),(0:Int),(50:Int)),((1:Int),(0:Int),(0:Int),(0:Int))],SV.sl (Ty.sl (Ty.int IntKind.i64)) [[(0:Int),(1:Int)],[(1:Int),(2:Int)],[(2:Int)],[(3:Int)]],SV.int IntKind.i64 (2:Int)]):=by kernel_rfl
def c_shown:PC P:=PC.of (α:=Unit) 44 [] (fun x => x) (fun x => x) (fun _ => rfl)
  (fun _ => none)
  (fun x => .agg [.sl tEl shownH.1,.sl tIs shownH.2.1,.int .i64 2]) (by kernel_rfl) (by
    rintro ⟨⟩ hp
    refine fn_le hm (by kernel_rfl) (by kernel_rfl) (T_shown ()) trivial (by kernel_rfl) ?_
    try dsimp only at hp
    try dsimp only
    exact ⟨rfl,rfl,rfl,trivial⟩)
theorem T_place (_:Unit):fnTree (P:=P) [c_shown.gc] (lpOf []) Try.f45 (encL 0 [] ()) =
  Tree.leaf (SV.agg [SV.int IntKind.i64 (0:Int),SV.int IntKind.i64 (3:Int),SV.int IntKind.i64 (0:Int),SV.int IntKind.i64 (-1:Int),SV.int IntKind.i64 (1000:Int),SV.sl (Ty.pair tI (Ty.pair tI (Ty.pair tI tI))) shownH.fst,SV.sl (Ty.sl tI) shownH.snd.fst,SV.int IntKind.i64 (2:Int),SV.nils,SV.int IntKind.i64 (-1:Int)]):=by kernel_rfl
def c_place:PC P:=PC.of (α:=Unit) 45 [] (fun x => x) (fun x => x) (fun _ => rfl)
  (fun _ => none)
  (fun x => .agg [.int .i64 0,.int .i64 3,.int .i64 0,.int .i64 (-1),.int .i64 1000,.sl tEl shownH.1,.sl tIs shownH.2.1,.int .i64 2,.sl tPm [],.int .i64 (-1)]) (by kernel_rfl) (by
    rintro ⟨⟩ hp
    refine fn_le hm (by kernel_rfl) (by kernel_rfl) (T_place ()) trivial (by kernel_rfl) ?_
    try dsimp only at hp
    try dsimp only
    exact ⟨rfl,rfl,rfl,rfl,rfl,rfl,rfl,rfl,rfl,rfl,trivial⟩)
def L_SameIntL:Lay:={ slots:=[(0,.val tIs),(1,.val tIs),(5,.val tI)] }
def L_SameIntL_0:Lay:={ slots:=[(4,.val .bool)] }
def L_SameIntL_1:Lay:={ slots:=[(0,.val tIs),(1,.val tIs)] }
def X_SameIntL:Exit → St → Option Lay
  | .ret,_ => some L_SameIntL_0
  | .exit 0,_ => some L_SameIntL_1
  | _,_ => none
abbrev C_SameIntL:Code:=loopC (bodyOf Try.f31) 0
theorem B_SameIntL (a b:List Int) (i:Int):loopBodyA (P:=P) [] (lpOf []) [] 32 noU (inner C_SameIntL) L_SameIntL X_SameIntL (α:=List Int × List Int × Int × Unit) (fun x => x) (fun x => x) (a,b,i,()) =
  Tree.cond (decide (i < (a.length:Int))) (.cond (decide (i < (b.length:Int))) (.need ((0:Int) ≤ i ∧ i < (a.length:Int)) (.need ((0:Int) ≤ i ∧ i < (b.length:Int)) (.cond (List.getD a (Int.toNat i) (0:Int) != List.getD b (Int.toNat i) (0:Int)) (.leaf (Sum.inr (Exit.ret,Lay.st L_SameIntL_0 noU (false,())))) (.leaf (Sum.inl (a,b,IntKind.i64.wrap (i + (1:Int)),())))))) (.leaf (Sum.inr (Exit.exit (0:Nat),Lay.st L_SameIntL_1 noU (a,b,()))))) (.leaf (Sum.inr (Exit.exit (0:Nat),Lay.st L_SameIntL_1 noU (a,b,())))):=by kernel_rfl
def inv_SameIntL:List Int × List Int × Int × Unit → Prop:=fun (a,b,i,()) => 0 ≤ i ∧ i ≤ a.length ∧ a = b ∧ (a.length:Int) < 2 ^ 62
def O_SameIntL:List Int × List Int × Int × Unit → Tree (Exit × St):=fun (a,b,i,()) => (.leaf (.exit 0,L_SameIntL_1.st noU (a,b,())))
def R_SameIntL:LRun:=runOf 32 L_SameIntL (fun x => x) (inv_SameIntL) (O_SameIntL)
theorem K_SameIntL:LoopOk P [] 32 none noU C_SameIntL (R_SameIntL):=by
  refine loop_of hm (cx:=[]) [] (xl:=X_SameIntL) (α:=List Int × List Int × Int × Unit) (fun x => x) (fun (a,b,i,()) => (a.length - i).toNat) (fun _ => rfl) (by kernel_rfl) (by kernel_rfl) ?_ (by kernel_rfl) trivial ?_
  · intro e S L' h
    unfold X_SameIntL at h
    split at h <;> first | (cases h; done) | (cases h; kernel_rfl) | (rcases bif_some h with h | h <;> cases h <;> kernel_rfl)
  · rintro ⟨a,b,i,⟨⟩⟩ hinv Q hQ
    refine hold_of_eq (B_SameIntL a b i) ?_
    obtain ⟨h0,h1,rfl,h2⟩:=hinv
    rw [W_id (n:=i + 1) (by omega) (by omega)]
    refine ⟨fun c1 => ⟨fun c1 => ?_,fun c1 => hQ⟩,fun c1 => hQ⟩
    have c1:=of_decide_eq_true c1
    exact ⟨⟨h0,c1⟩,⟨h0,c1⟩,fun c2 => absurd c2 (by simp),fun c2 => ⟨⟨⟨by omega,by omega,rfl,h2⟩,by show ((a.length:Int) - (i + 1)).toNat < ((a.length:Int) - i).toNat; omega⟩,hQ⟩⟩
theorem T_SameInts (a b:List Int):fnTree (P:=P) [] (lpOf [(0,R_SameIntL)]) Try.f31 (encL 0 [.val tIs,.val tIs] (a,b,())) =
  Tree.need (inv_SameIntL (a,b,(0:Int),())) (.leaf (SV.bool ((a.length:Int) == (b.length:Int)))):=by kernel_rfl
def c_SameInts:PC P:=PC.of (α:=List Int × List Int × Unit) 31 [.val tIs,.val tIs] (fun x => x) (fun x => x) (fun _ => rfl)
  (fun x => some (x.1 = x.2.1 ∧ (x.1.length:Int) < 2 ^ 62))
  (fun x => .bool true) (by kernel_rfl) (by
    rintro ⟨a,b,⟨⟩⟩ hp
    refine fn_of hm (by kernel_rfl) (by kernel_rfl) (T_SameInts a b) ⟨K_SameIntL,trivial⟩ ?_
    try dsimp only at hp
    try dsimp only
    obtain ⟨rfl,h1⟩ : a = b ∧ (a.length:Int) < 2 ^ 62:=hp
    refine ⟨⟨by decide,by omega,rfl,h1⟩,?_⟩
    show SV.bool _ = SV.bool true
    simp)
theorem T_awake (_:Unit):fnTree (P:=P) [c_shown.gc,c_place.gc,c_Proof.gc,c_Do1.gc,c_SameInts.gc] (lpOf []) Try.f14 (encL 0 [] ()) =
  Tree.need (hOk (shownH.fst,shownH.snd.fst,(2:Int))) (.need (((7:Int) = (6:Int) ∨ (7:Int) = (7:Int)) ∧ chkS ((0:Int),(3:Int),(0:Int),(-1:Int),(1000:Int),(shownH.fst,shownH.snd.fst,(2:Int)),[],(-1:Int)) = (0:Int) ∧ sOk ((0:Int),(3:Int),(0:Int),(-1:Int),(1000:Int),(shownH.fst,shownH.snd.fst,(2:Int)),[],(-1:Int)) ∧ opnS ((0:Int),(3:Int),(0:Int),(-1:Int),(1000:Int),(shownH.fst,shownH.snd.fst,(2:Int)),[],(-1:Int)) = false) (.need (((6:Int) = (6:Int) ∨ (6:Int) = (7:Int)) ∧ chkS ((0:Int),(3:Int),(0:Int),(-1:Int),(1000:Int),(shownH.fst,shownH.snd.fst,(2:Int)),[],(-1:Int)) = (0:Int) ∧ sOk ((0:Int),(3:Int),(0:Int),(-1:Int),(1000:Int),(shownH.fst,shownH.snd.fst,(2:Int)),[],(-1:Int)) ∧ opnS ((0:Int),(3:Int),(0:Int),(-1:Int),(1000:Int),(shownH.fst,shownH.snd.fst,(2:Int)),[],(-1:Int)) = false) (.cond true (.need ((prS (shownH.fst,shownH.snd.fst,(2:Int)) (10:Int) (1000:Int)).fst = [(0:Int),(2:Int)] ∧ (↑(List.length (prS (shownH.fst,shownH.snd.fst,(2:Int)) (10:Int) (1000:Int)).fst):Int) < (2:Int) ^ (62:Nat)) (.cond true (.cond true (.cond true (.leaf (SV.bool true)) (.leaf (SV.bool false))) (.leaf (SV.bool false))) (.leaf (SV.bool false)))) (.leaf (SV.bool false))))):=by kernel_rfl
def c_awake:PC P:=PC.of (α:=Unit) 14 [] (fun x => x) (fun x => x) (fun _ => rfl)
  (fun _ => none)
  (fun x => .bool true) (by kernel_rfl) (by
    rintro ⟨⟩ hp
    refine fn_of hm (by kernel_rfl) (by kernel_rfl) (T_awake ()) trivial ?_
    try dsimp only at hp
    try dsimp only
    have h1:hOk (shownH.1,shownH.2.1,2):=⟨by decide,by decide,by decide⟩
    have h2:chkS (0,3,0,-1,1000,(shownH.1,shownH.2.1,2),[],-1) = 0:=by decide +kernel
    have h3:sOk (0,3,0,-1,1000,(shownH.1,shownH.2.1,2),[],-1):=⟨h1,by decide⟩
    have h4:(prS (shownH.1,shownH.2.1,2) 10 1000).1 = [0,2]:=by decide +kernel
    refine ⟨h1,⟨.inr rfl,h2,h3,rfl⟩,⟨.inl rfl,h2,h3,rfl⟩,fun _ => ⟨⟨h4,by rw [h4]; decide⟩,fun _ => ⟨fun _ => ⟨fun _ => rfl,fun h => (by cases h)⟩,fun h => (by cases h)⟩,fun h => (by cases h)⟩,fun h => (by cases h)⟩)
end
end Go.MB
