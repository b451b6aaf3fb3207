/- Entries at a site of which the lists are rows of its own: elements and the command. -/
import Derived.Test.YtdoobpeacbcohaaGreatMoH
import Derived.Test.YtdoobpeacbcohaaGreatFw4
namespace Go.MB
open Go Go.Sx Go.Proofs
set_option linter.unusedVariables false
set_option linter.unusedSimpArgs false
noncomputable section
abbrev siteL:List Sh:=[.val tI,.val tI,.val tI,.val tI,.val tI,.rowk 50 26 tEl,.val tIss,.val tI,.rowk 51 71 tPm,.val tI]
abbrev siteO (s:Site):List SV:=[.int .i64 s.1,.int .i64 s.2.1,.int .i64 s.2.2.1,.int .i64 s.2.2.2.1,.int .i64 s.2.2.2.2.1,.own 50,.sl tIs s.2.2.2.2.2.1.2.1,.int .i64 s.2.2.2.2.2.1.2.2,.own 51,.int .i64 s.2.2.2.2.2.2.2]
abbrev siteN (s:Site):List Ob:=[.row 26 tEl s.2.2.2.2.2.1.1,.row 71 tPm s.2.2.2.2.2.2.1]
def inRg (n:Nat) (a:Int):Prop:=0 ≤ a ∧ a < n
instance (n:Nat) (a:Int):Decidable (inRg n a):=inferInstanceAs (Decidable (_ ∧ _))
theorem bneF {a b:Int} (h:(a != b) = false):a = b:=by simpa using h
theorem notT {b:Bool} (h:(!b) = true):b = false:=by simpa using h
theorem notF {b:Bool} (h:(!b) = false):b = true:=by simpa using h
def gEl (l:List E4) (a:Int):E4:=l.getD a.toNat (0,0,0,0)
def L_elemA:Lay:={ slots:=[(0,.ptr 1 0),(1,.agg tEntry)],boxes:=[(1,siteL)] }
theorem T_elemA (e0 e1 e2 e3 e4 e5:Int) (x0 x1 x2 x3 x4:Int) (x5:List E4) (x6:List (List Int)) (x7:Int) (x8:List Pm) (x9:Int):mTree (P:=P) [] (lpOf []) Tryz.f102 L_elemA true ((),(e0,e1,e2,e3,e4,e5),x0,x1,x2,x3,x4,x5,x6,x7,x8,x9,()) =
  Tree.cond (decide (e3 < (0:Int))) (.leaf { res:=SV.nilp,boxes:=[[SV.int IntKind.i64 x0,SV.int IntKind.i64 x1,SV.int IntKind.i64 x2,SV.int IntKind.i64 x3,SV.int IntKind.i64 x4,SV.own (50:Nat),SV.sl tIs x6,SV.int IntKind.i64 x7,SV.own (51:Nat),SV.int IntKind.i64 x9]],news:=[Ob.row (26:TypeId) tEl x5,Ob.row (71:TypeId) tPm x8] ++ [] }) (.cond (decide (e3 ≥ (x5.length:Int))) (.leaf { res:=SV.nilp,boxes:=[[SV.int IntKind.i64 x0,SV.int IntKind.i64 x1,SV.int IntKind.i64 x2,SV.int IntKind.i64 x3,SV.int IntKind.i64 x4,SV.own (50:Nat),SV.sl tIs x6,SV.int IntKind.i64 x7,SV.own (51:Nat),SV.int IntKind.i64 x9]],news:=[Ob.row (26:TypeId) tEl x5,Ob.row (71:TypeId) tPm x8] ++ [] }) (.need ((0:Int) ≤ e3 ∧ e3 < (x5.length:Int)) (.leaf { res:=SV.oel (nat_lit 50) (nat_lit 4) (Int.toNat e3) (0:Nat),boxes:=[[SV.int IntKind.i64 x0,SV.int IntKind.i64 x1,SV.int IntKind.i64 x2,SV.int IntKind.i64 x3,SV.int IntKind.i64 x4,SV.own (50:Nat),SV.sl tIs x6,SV.int IntKind.i64 x7,SV.own (51:Nat),SV.int IntKind.i64 x9]],news:=[Ob.row (26:TypeId) tEl x5,Ob.row (71:TypeId) tPm x8] ++ [] }))):=by kernel_rfl
def c_elemA:MC P:=MC.of (α:=Unit × Entry × Int × Int × Int × Int × Int × List E4 × List (List Int) × Int × List Pm × Int × Unit) 102 L_elemA (fun x => x) (fun x => x) (fun _ => rfl)
  (fun (_,e,x0,x1,x2,x3,x4,x5,x6,x7,x8,x9,_) => some (inRg x5.length e.2.2.2.1))
  (fun (_,e,x0,x1,x2,x3,x4,x5,x6,x7,x8,x9,_) => ⟨.oel 50 4 e.2.2.2.1.toNat 0,[siteO (x0,x1,x2,x3,x4,(x5,x6,x7),x8,x9)],siteN (x0,x1,x2,x3,x4,(x5,x6,x7),x8,x9)⟩) (by kernel_rfl) (by kernel_rfl) (by kernel_rfl) (by
    rintro ⟨⟨⟩,⟨e0,e1,e2,e3,e4,e5⟩,x0,x1,x2,x3,x4,x5,x6,x7,x8,x9,⟨⟩⟩ hp
    refine m_of hm (own:=true) (by kernel_rfl) (by kernel_rfl) (by kernel_rfl) (T_elemA e0 e1 e2 e3 e4 e5 x0 x1 x2 x3 x4 x5 x6 x7 x8 x9) trivial ?_
    have h:0 ≤ e3 ∧ e3 < (x5.length:Int):=hp
    refine ⟨fun c1 => ?_,fun c1 => ⟨fun c2 => ?_,fun c2 => ⟨h,rfl⟩⟩⟩
    · have:=of_decide_eq_true c1; omega
    · have:=of_decide_eq_true c2; omega)
def L_elemB:Lay:={ slots:=[(0,.ptr 1 0),(1,.agg tEntry)],boxes:=[(1,siteL)] }
theorem T_elemB (e0 e1 e2 e3 e4 e5:Int) (x0 x1 x2 x3 x4:Int) (x5:List E4) (x6:List (List Int)) (x7:Int) (x8:List Pm) (x9:Int):mTree (P:=P) [] (lpOf []) Tryz.f102 L_elemB true ((),(e0,e1,e2,e3,e4,e5),x0,x1,x2,x3,x4,x5,x6,x7,x8,x9,()) =
  Tree.cond (decide (e3 < (0:Int))) (.leaf { res:=SV.nilp,boxes:=[[SV.int IntKind.i64 x0,SV.int IntKind.i64 x1,SV.int IntKind.i64 x2,SV.int IntKind.i64 x3,SV.int IntKind.i64 x4,SV.own (50:Nat),SV.sl tIs x6,SV.int IntKind.i64 x7,SV.own (51:Nat),SV.int IntKind.i64 x9]],news:=[Ob.row (26:TypeId) tEl x5,Ob.row (71:TypeId) tPm x8] ++ [] }) (.cond (decide (e3 ≥ (x5.length:Int))) (.leaf { res:=SV.nilp,boxes:=[[SV.int IntKind.i64 x0,SV.int IntKind.i64 x1,SV.int IntKind.i64 x2,SV.int IntKind.i64 x3,SV.int IntKind.i64 x4,SV.own (50:Nat),SV.sl tIs x6,SV.int IntKind.i64 x7,SV.own (51:Nat),SV.int IntKind.i64 x9]],news:=[Ob.row (26:TypeId) tEl x5,Ob.row (71:TypeId) tPm x8] ++ [] }) (.need ((0:Int) ≤ e3 ∧ e3 < (x5.length:Int)) (.leaf { res:=SV.oel (nat_lit 50) (nat_lit 4) (Int.toNat e3) (0:Nat),boxes:=[[SV.int IntKind.i64 x0,SV.int IntKind.i64 x1,SV.int IntKind.i64 x2,SV.int IntKind.i64 x3,SV.int IntKind.i64 x4,SV.own (50:Nat),SV.sl tIs x6,SV.int IntKind.i64 x7,SV.own (51:Nat),SV.int IntKind.i64 x9]],news:=[Ob.row (26:TypeId) tEl x5,Ob.row (71:TypeId) tPm x8] ++ [] }))):=by kernel_rfl
def c_elemB:MC P:=MC.of (α:=Unit × Entry × Int × Int × Int × Int × Int × List E4 × List (List Int) × Int × List Pm × Int × Unit) 102 L_elemB (fun x => x) (fun x => x) (fun _ => rfl)
  (fun (_,e,x0,x1,x2,x3,x4,x5,x6,x7,x8,x9,_) => some (¬ inRg x5.length e.2.2.2.1))
  (fun (_,e,x0,x1,x2,x3,x4,x5,x6,x7,x8,x9,_) => ⟨.nilp,[siteO (x0,x1,x2,x3,x4,(x5,x6,x7),x8,x9)],siteN (x0,x1,x2,x3,x4,(x5,x6,x7),x8,x9)⟩) (by kernel_rfl) (by kernel_rfl) (by kernel_rfl) (by
    rintro ⟨⟨⟩,⟨e0,e1,e2,e3,e4,e5⟩,x0,x1,x2,x3,x4,x5,x6,x7,x8,x9,⟨⟩⟩ hp
    refine m_of hm (own:=true) (by kernel_rfl) (by kernel_rfl) (by kernel_rfl) (T_elemB e0 e1 e2 e3 e4 e5 x0 x1 x2 x3 x4 x5 x6 x7 x8 x9) trivial ?_
    have h:¬ (0 ≤ e3 ∧ e3 < (x5.length:Int)):=hp
    refine ⟨fun c1 => rfl,fun c1 => ⟨fun c2 => rfl,fun c2 => ?_⟩⟩
    have d1:=of_decide_eq_false c1
    have d2:=of_decide_eq_false c2
    omega)
def sElem (args:List SV) (H:Hp):Option Bool:=match args with
  | [.ptr k _,.agg cs] => match cs.getD 3 .any,H k with
    | .int _ a,some (.box bs) => match bs.getD 5 .any with
      | .own j => match H j with
        | some (.row _ _ l) => some (decide (inRg l.length a))
        | _ => none
      | _ => none
    | _,_ => none
  | _ => none
def c_elem:GC P:=GC.split sElem c_elemA.gc c_elemB.gc (by kernel_rfl)
def alvB (x:E4):Bool:=x.1 == 1 || x.1 == 2
theorem T_alive (a b c d:Int):fnTree (P:=P) [] (lpOf []) Tryz.f103 (encL 0 [.adr tEl] ((a,b,c,d),())) =
  Tree.cond (a == (1:Int)) (.leaf (SV.bool true)) (.leaf (SV.bool (a == (2:Int)))):=by kernel_rfl
def c_alive:PC P:=PC.of (α:=E4 × Unit) 103 [.adr tEl] (fun x => x) (fun x => x) (fun _ => rfl)
  (fun _ => none)
  (fun x => .bool (alvB x.1)) (by kernel_rfl) (by
    rintro ⟨⟨a,b,c,d⟩,⟨⟩⟩ hp
    refine fn_of hm (by kernel_rfl) (by kernel_rfl) (T_alive a b c d) trivial ?_
    refine ⟨fun c1 => ?_,fun c1 => ?_⟩
    · exact congrArg SV.bool (show _ = alvB (a,b,c,d) by unfold alvB; rw [c1,Bool.true_or])
    · exact congrArg SV.bool (show _ = alvB (a,b,c,d) by unfold alvB; rw [c1,Bool.false_or]))
def c_aliveO:GC P:=oelGC 103 tEl (fun _ => True) (fun d => .bool (alvB d)) (by kernel_rfl) (fun _ => rfl) (fun d _ => c_alive.ok (d,()) trivial)
def L_memberX:Lay:={ slots:=[(0,.agg (.pair tI (.pair tI (.pair tI (.pair tI (.pair tI (.pair (.pair (.sl (.pair tI tV)) (.pair (.sl tIs) tI)) (.pair (.sl (.pair tI (.pair tI (.pair tI .bool)))) tI)))))))),(1,.val tI)] }
theorem T_memberX (s_0 s_1 s_2 s_3 s_4:Int) (s_5:List (Int × V)) (s_6:List (List Int)) (s_7:Int) (s_8:List (Int × (Int × (Int × Bool)))) (s_9 who:Int):mTree (P:=P) [] (lpOf []) Tryz.f18 L_memberX true ((s_0,(s_1,(s_2,(s_3,(s_4,((s_5,(s_6,s_7)),(s_8,s_9))))))),who,()) =
  Tree.cond (decide (who ≥ (0:Int))) (.leaf { res:=SV.bool (decide (who < s_1)),boxes:=[] }) (.leaf { res:=SV.bool false,boxes:=[] }):=by kernel_rfl
def c_memberX:XC P:=XC.of (α:=(Int × (Int × (Int × (Int × (Int × ((List (Int × V) × (List (List Int) × Int)) × (List (Int × (Int × (Int × Bool))) × Int))))))) × Int × Unit) 18 L_memberX (fun x => x) (fun x => x) (fun _ => rfl)
  (fun _ => none)
  (fun x => ⟨.bool (memB x.1.2.1 x.2.1),[],[]⟩) (by kernel_rfl) (by kernel_rfl) (by
    rintro ⟨⟨s_0,⟨s_1,⟨s_2,⟨s_3,⟨s_4,⟨⟨s_5,⟨s_6,s_7⟩⟩,⟨s_8,s_9⟩⟩⟩⟩⟩⟩⟩,who,⟨⟩⟩ hp
    refine m_of hm (own:=true) (by kernel_rfl) (by kernel_rfl) (by kernel_rfl) (T_memberX s_0 s_1 s_2 s_3 s_4 s_5 s_6 s_7 s_8 s_9 who) trivial ?_
    try dsimp only at hp
    try dsimp only
    have fin:∀ b:Bool,b = memB s_1 who → (⟨.bool b,[],[]⟩ : MOut) = ⟨.bool (memB s_1 who),[],[]⟩:=fun b h => by rw [h]
    refine ⟨fun c1 => fin _ ?_,fun c1 => fin _ ?_⟩
    · unfold memB; rw [c1,Bool.true_and]
    · unfold memB; rw [c1,Bool.false_and])
def L_keepsX:Lay:={ slots:=[(0,.adr (.pair tI (.pair tI (.pair tI (.pair tI (.pair tI (.pair (.pair (.sl (.pair tI tV)) (.pair (.sl tIs) tI)) (.pair (.sl (.pair tI (.pair tI (.pair tI .bool)))) tI)))))))),(1,.val tI)] }
theorem T_keepsX (s_0 s_1 s_2 s_3 s_4:Int) (s_5:List (Int × V)) (s_6:List (List Int)) (s_7:Int) (s_8:List (Int × (Int × (Int × Bool)))) (s_9 tick:Int):mTree (P:=P) [c_openS.gc,c_holds.gc] (lpOf []) Tryz.f51 L_keepsX true ((s_0,(s_1,(s_2,(s_3,(s_4,((s_5,(s_6,s_7)),(s_8,s_9))))))),tick,()) =
  Tree.need (List.length s_8 ≤ (1000:Nat)) (.cond (!opnS (s_0,s_1,s_2,s_3,s_4,(s_5,s_6,s_7),s_8,s_9)) (.leaf { res:=SV.bool true,boxes:=[] }) (.need (houseE (s_5,s_6,s_7) = (0:Int)) (.leaf { res:=SV.bool (holdsS (s_5,s_6,s_7) tick s_4),boxes:=[] }))):=by kernel_rfl
def c_keepsX:XC P:=XC.of (α:=(Int × (Int × (Int × (Int × (Int × ((List (Int × V) × (List (List Int) × Int)) × (List (Int × (Int × (Int × Bool))) × Int))))))) × Int × Unit) 51 L_keepsX (fun x => x) (fun x => x) (fun _ => rfl)
  (fun x => some (houseE x.1.2.2.2.2.2.1 = 0 ∧ x.1.2.2.2.2.2.2.1.length ≤ 1000))
  (fun x => ⟨.bool (keepS x.1 x.2.1),[],[]⟩) (by kernel_rfl) (by kernel_rfl) (by
    rintro ⟨⟨s_0,⟨s_1,⟨s_2,⟨s_3,⟨s_4,⟨⟨s_5,⟨s_6,s_7⟩⟩,⟨s_8,s_9⟩⟩⟩⟩⟩⟩⟩,tick,⟨⟩⟩ hp
    refine m_of hm (own:=true) (by kernel_rfl) (by kernel_rfl) (by kernel_rfl) (T_keepsX s_0 s_1 s_2 s_3 s_4 s_5 s_6 s_7 s_8 s_9 tick) trivial ?_
    try dsimp only at hp
    try dsimp only
    obtain ⟨h1,h2⟩ : houseE (s_5,s_6,s_7) = 0 ∧ s_8.length ≤ 1000:=hp
    have fin:∀ n:Bool,keepS (s_0,s_1,s_2,s_3,s_4,(s_5,s_6,s_7),s_8,s_9) tick = n → (⟨SV.bool n,[],[]⟩ : MOut) = ⟨SV.bool (keepS (s_0,s_1,s_2,s_3,s_4,(s_5,s_6,s_7),s_8,s_9) tick),[],[]⟩:=fun n h => by rw [h]
    unfold keepS at fin
    dsimp only at fin
    refine ⟨h2,fun c1 => fin _ ?_,fun c1 => ⟨h1,fin _ ?_⟩⟩
    · rw [c1,Bool.true_or]
    · rw [c1,Bool.false_or])
def setE (s:Site) (l:List E4):Site:=(s.1,s.2.1,s.2.2.1,s.2.2.2.1,s.2.2.2.2.1,(l,s.2.2.2.2.2.1.2.1,s.2.2.2.2.2.1.2.2),s.2.2.2.2.2.2.1,s.2.2.2.2.2.2.2)
def insE (l:List E4) (a:Int):Int:=if ¬ inRg l.length a then 2 else if (gEl l a).1 ≠ 0 ∧ (gEl l a).1 ≠ 3 then 10 else 0
def insL (l:List E4) (a:Int):List E4:=if insE l a = 0 then l.set a.toNat (1,0,0,0) else l
def tstE (l:List E4) (e:Entry):Int:=if ¬ inRg l.length e.2.2.2.1 then 2 else if wi e.2.2.2.2.2 1 68719476736 = false then 2 else if e.2.2.2.2.1 < 1 then 2 else if e.2.2.2.2.1 > 16777216 then 2 else if alvB (gEl l e.2.2.2.1) = false then 10 else 0
def tstL (l:List E4) (e:Entry):List E4:=if tstE l e = 0 then l.set e.2.2.2.1.toNat (2,e.2.2.2.2.2,e.1,IntKind.i64.wrap (e.1 + e.2.2.2.2.1)) else l
def falE (l:List E4) (a:Int):Int:=if ¬ inRg l.length a then 2 else if alvB (gEl l a) = false then 10 else 0
def falL (l:List E4) (a:Int):List E4:=if falE l a = 0 then l.set a.toNat (3,(gEl l a).2.1,(gEl l a).2.2.1,(gEl l a).2.2.2) else l
def remQ (l:List E4) (a:Int):Int:=if ¬ inRg l.length a then 2 else if (gEl l a).1 = 0 then 10 else 0
def remL (l:List E4) (a:Int):List E4:=if remQ l a = 0 then l.set a.toNat (0,0,0,0) else l
def remE (s:Site) (e:Entry):Int:=if remQ s.2.2.2.2.2.1.1 e.2.2.2.1 ≠ 0 then remQ s.2.2.2.2.2.1.1 e.2.2.2.1 else if keepS (setE s (remL s.2.2.2.2.2.1.1 e.2.2.2.1)) e.1 = false then 15 else 0
def L_install:Lay:={ slots:=[(0,.ptr 1 0),(1,.agg tEntry)],boxes:=[(1,siteL)] }
theorem T_install (e0 e1 e2 e3 e4 e5:Int) (x0 x1 x2 x3 x4:Int) (x5:List E4) (x6:List (List Int)) (x7:Int) (x8:List Pm) (x9:Int):mTree (P:=P) [c_elem] (lpOf []) Tryz.f80 L_install true ((),(e0,e1,e2,e3,e4,e5),x0,x1,x2,x3,x4,x5,x6,x7,x8,x9,()) =
  Tree.cond (decide (inRg (List.length x5) e3)) (.need (inRg (List.length x5) e3) (.cond false (.leaf { res:=SV.int IntKind.i64 (2:Int),boxes:=[[SV.int IntKind.i64 x0,SV.int IntKind.i64 x1,SV.int IntKind.i64 x2,SV.int IntKind.i64 x3,SV.int IntKind.i64 x4,SV.own (nat_lit 50),SV.sl tIs x6,SV.int IntKind.i64 x7,SV.own (nat_lit 51),SV.int IntKind.i64 x9]],news:=[Ob.row (26:TypeId) tEl x5,Ob.row (71:TypeId) tPm x8] ++ [] }) (.need (Int.toNat e3 < List.length x5) (.cond ((List.getD x5 (Int.toNat e3) (0,0,0,0)).fst != (0:Int)) (.need (Int.toNat e3 < List.length x5) (.cond ((List.getD x5 (Int.toNat e3) (0,0,0,0)).fst != (3:Int)) (.leaf { res:=SV.int IntKind.i64 (10:Int),boxes:=[[SV.int IntKind.i64 x0,SV.int IntKind.i64 x1,SV.int IntKind.i64 x2,SV.int IntKind.i64 x3,SV.int IntKind.i64 x4,SV.own (nat_lit 50),SV.sl tIs x6,SV.int IntKind.i64 x7,SV.own (nat_lit 51),SV.int IntKind.i64 x9]],news:=[Ob.row (26:TypeId) tEl x5,Ob.row (71:TypeId) tPm x8] ++ [] }) (.need (Int.toNat e3 < List.length x5) (.leaf { res:=SV.int IntKind.i64 (0:Int),boxes:=[[SV.int IntKind.i64 x0,SV.int IntKind.i64 x1,SV.int IntKind.i64 x2,SV.int IntKind.i64 x3,SV.int IntKind.i64 x4,SV.own (nat_lit 50),SV.sl tIs x6,SV.int IntKind.i64 x7,SV.own (nat_lit 51),SV.int IntKind.i64 x9]],news:=[Ob.row (26:TypeId) tEl (List.set x5 (Int.toNat e3) ((1:Int),(0:Int),(0:Int),(0:Int))),Ob.row (71:TypeId) tPm x8] ++ [] })))) (.need (Int.toNat e3 < List.length x5) (.leaf { res:=SV.int IntKind.i64 (0:Int),boxes:=[[SV.int IntKind.i64 x0,SV.int IntKind.i64 x1,SV.int IntKind.i64 x2,SV.int IntKind.i64 x3,SV.int IntKind.i64 x4,SV.own (nat_lit 50),SV.sl tIs x6,SV.int IntKind.i64 x7,SV.own (nat_lit 51),SV.int IntKind.i64 x9]],news:=[Ob.row (26:TypeId) tEl (List.set x5 (Int.toNat e3) ((1:Int),(0:Int),(0:Int),(0:Int))),Ob.row (71:TypeId) tPm x8] ++ [] })))))) (.need (¬inRg (List.length x5) e3) (.cond true (.leaf { res:=SV.int IntKind.i64 (2:Int),boxes:=[[SV.int IntKind.i64 x0,SV.int IntKind.i64 x1,SV.int IntKind.i64 x2,SV.int IntKind.i64 x3,SV.int IntKind.i64 x4,SV.own (nat_lit 50),SV.sl tIs x6,SV.int IntKind.i64 x7,SV.own (nat_lit 51),SV.int IntKind.i64 x9]],news:=[Ob.row (26:TypeId) tEl x5,Ob.row (71:TypeId) tPm x8] ++ [] }) (Tree.fail (1014:Nat)))):=by kernel_rfl
def c_install:MC P:=MC.of (α:=Unit × Entry × Int × Int × Int × Int × Int × List E4 × List (List Int) × Int × List Pm × Int × Unit) 80 L_install (fun x => x) (fun x => x) (fun _ => rfl)
  (fun _ => none)
  (fun (_,e,x0,x1,x2,x3,x4,x5,x6,x7,x8,x9,_) => ⟨.int .i64 (insE x5 e.2.2.2.1),[siteO (x0,x1,x2,x3,x4,(insL x5 e.2.2.2.1,x6,x7),x8,x9)],siteN (x0,x1,x2,x3,x4,(insL x5 e.2.2.2.1,x6,x7),x8,x9)⟩) (by kernel_rfl) (by kernel_rfl) (by kernel_rfl) (by
    rintro ⟨⟨⟩,⟨e0,e1,e2,e3,e4,e5⟩,x0,x1,x2,x3,x4,x5,x6,x7,x8,x9,⟨⟩⟩ hp
    refine m_of hm (own:=true) (by kernel_rfl) (by kernel_rfl) (by kernel_rfl) (T_install e0 e1 e2 e3 e4 e5 x0 x1 x2 x3 x4 x5 x6 x7 x8 x9) trivial ?_
    have fin:∀ (m:Int) (l:List E4),m = insE x5 e3 → l = insL x5 e3 → (⟨.int .i64 m,[siteO (x0,x1,x2,x3,x4,(l,x6,x7),x8,x9)],siteN (x0,x1,x2,x3,x4,(l,x6,x7),x8,x9)⟩ : MOut) = ⟨.int .i64 (insE x5 e3),[siteO (x0,x1,x2,x3,x4,(insL x5 e3,x6,x7),x8,x9)],siteN (x0,x1,x2,x3,x4,(insL x5 e3,x6,x7),x8,x9)⟩:=fun m l h1 h2 => by rw [h1,h2]
    
    refine ⟨fun c1 => ?_,fun c1 => ?_⟩
    · have d1:inRg x5.length e3:=of_decide_eq_true c1
      have d2:e3.toNat < x5.length:=by have:=d1.1; have:=d1.2; omega
      refine ⟨d1,⟨fun c2 => (by cases c2),fun c2 => ⟨d2,⟨fun c3 => ⟨d2,⟨fun c4 => ?_,fun c4 => ⟨d2,?_⟩⟩⟩,fun c3 => ⟨d2,?_⟩⟩⟩⟩⟩
      · have d3:(gEl x5 e3).1 ≠ 0:=bne_iff_ne.1 c3
        have d4:(gEl x5 e3).1 ≠ 3:=bne_iff_ne.1 c4
        have e:insE x5 e3 = 10:=by unfold insE; rw [if_neg (fun k => k d1),if_pos ⟨d3,d4⟩]
        exact fin 10 x5 e.symm (by unfold insL; rw [e,if_neg (by decide)])
      · have d4:(gEl x5 e3).1 = 3:=bneF c4
        have e:insE x5 e3 = 0:=by unfold insE; rw [if_neg (fun k => k d1),if_neg (fun k => k.2 d4)]
        exact fin 0 _ e.symm (by unfold insL; rw [if_pos e]; rfl)
      · have d3:(gEl x5 e3).1 = 0:=bneF c3
        have e:insE x5 e3 = 0:=by unfold insE; rw [if_neg (fun k => k d1),if_neg (fun k => k.1 d3)]
        exact fin 0 _ e.symm (by unfold insL; rw [if_pos e]; rfl)
    · have d1:¬ inRg x5.length e3:=of_decide_eq_false c1
      have e:insE x5 e3 = 2:=by unfold insE; rw [if_pos d1]
      exact ⟨d1,⟨fun c5 => fin 2 x5 e.symm (by unfold insL; rw [e,if_neg (by decide)]),fun c5 => (by cases c5)⟩⟩)
def L_test:Lay:={ slots:=[(0,.ptr 1 0),(1,.agg tEntry)],boxes:=[(1,siteL)] }
theorem T_test (e0 e1 e2 e3 e4 e5:Int) (x0 x1 x2 x3 x4:Int) (x5:List E4) (x6:List (List Int)) (x7:Int) (x8:List Pm) (x9:Int):mTree (P:=P) [c_elem,c_within.gc,c_aliveO] (lpOf []) Tryz.f81 L_test true ((),(e0,e1,e2,e3,e4,e5),x0,x1,x2,x3,x4,x5,x6,x7,x8,x9,()) =
  Tree.cond (decide (inRg (List.length x5) e3)) (.need (inRg (List.length x5) e3) (.cond false (.leaf { res:=SV.int IntKind.i64 (2:Int),boxes:=[[SV.int IntKind.i64 x0,SV.int IntKind.i64 x1,SV.int IntKind.i64 x2,SV.int IntKind.i64 x3,SV.int IntKind.i64 x4,SV.own (nat_lit 50),SV.sl tIs x6,SV.int IntKind.i64 x7,SV.own (nat_lit 51),SV.int IntKind.i64 x9]],news:=[Ob.row (26:TypeId) tEl x5,Ob.row (71:TypeId) tPm x8] ++ [] }) (.cond (!wi e5 (1:Int) (68719476736:Int)) (.leaf { res:=SV.int IntKind.i64 (2:Int),boxes:=[[SV.int IntKind.i64 x0,SV.int IntKind.i64 x1,SV.int IntKind.i64 x2,SV.int IntKind.i64 x3,SV.int IntKind.i64 x4,SV.own (nat_lit 50),SV.sl tIs x6,SV.int IntKind.i64 x7,SV.own (nat_lit 51),SV.int IntKind.i64 x9]],news:=[Ob.row (26:TypeId) tEl x5,Ob.row (71:TypeId) tPm x8] ++ [] }) (.cond (decide (e4 < (1:Int))) (.leaf { res:=SV.int IntKind.i64 (2:Int),boxes:=[[SV.int IntKind.i64 x0,SV.int IntKind.i64 x1,SV.int IntKind.i64 x2,SV.int IntKind.i64 x3,SV.int IntKind.i64 x4,SV.own (nat_lit 50),SV.sl tIs x6,SV.int IntKind.i64 x7,SV.own (nat_lit 51),SV.int IntKind.i64 x9]],news:=[Ob.row (26:TypeId) tEl x5,Ob.row (71:TypeId) tPm x8] ++ [] }) (.cond (decide (e4 > (16777216:Int))) (.leaf { res:=SV.int IntKind.i64 (2:Int),boxes:=[[SV.int IntKind.i64 x0,SV.int IntKind.i64 x1,SV.int IntKind.i64 x2,SV.int IntKind.i64 x3,SV.int IntKind.i64 x4,SV.own (nat_lit 50),SV.sl tIs x6,SV.int IntKind.i64 x7,SV.own (nat_lit 51),SV.int IntKind.i64 x9]],news:=[Ob.row (26:TypeId) tEl x5,Ob.row (71:TypeId) tPm x8] ++ [] }) (.need (Int.toNat e3 < List.length x5 ∧ True) (.cond (!alvB (List.getD x5 (Int.toNat e3) (0,0,0,0))) (.leaf { res:=SV.int IntKind.i64 (10:Int),boxes:=[[SV.int IntKind.i64 x0,SV.int IntKind.i64 x1,SV.int IntKind.i64 x2,SV.int IntKind.i64 x3,SV.int IntKind.i64 x4,SV.own (nat_lit 50),SV.sl tIs x6,SV.int IntKind.i64 x7,SV.own (nat_lit 51),SV.int IntKind.i64 x9]],news:=[Ob.row (26:TypeId) tEl x5,Ob.row (71:TypeId) tPm x8] ++ [] }) (.need (Int.toNat e3 < List.length x5) (.leaf { res:=SV.int IntKind.i64 (0:Int),boxes:=[[SV.int IntKind.i64 x0,SV.int IntKind.i64 x1,SV.int IntKind.i64 x2,SV.int IntKind.i64 x3,SV.int IntKind.i64 x4,SV.own (nat_lit 50),SV.sl tIs x6,SV.int IntKind.i64 x7,SV.own (nat_lit 51),SV.int IntKind.i64 x9]],news:=[Ob.row (26:TypeId) tEl (List.set x5 (Int.toNat e3) ((2:Int),e5,e0,IntKind.i64.wrap (e0 + e4))),Ob.row (71:TypeId) tPm x8] ++ [] }))))))))) (.need (¬inRg (List.length x5) e3) (.cond true (.leaf { res:=SV.int IntKind.i64 (2:Int),boxes:=[[SV.int IntKind.i64 x0,SV.int IntKind.i64 x1,SV.int IntKind.i64 x2,SV.int IntKind.i64 x3,SV.int IntKind.i64 x4,SV.own (nat_lit 50),SV.sl tIs x6,SV.int IntKind.i64 x7,SV.own (nat_lit 51),SV.int IntKind.i64 x9]],news:=[Ob.row (26:TypeId) tEl x5,Ob.row (71:TypeId) tPm x8] ++ [] }) (.cond (!wi e5 (1:Int) (68719476736:Int)) (.leaf { res:=SV.int IntKind.i64 (2:Int),boxes:=[[SV.int IntKind.i64 x0,SV.int IntKind.i64 x1,SV.int IntKind.i64 x2,SV.int IntKind.i64 x3,SV.int IntKind.i64 x4,SV.own (nat_lit 50),SV.sl tIs x6,SV.int IntKind.i64 x7,SV.own (nat_lit 51),SV.int IntKind.i64 x9]],news:=[Ob.row (26:TypeId) tEl x5,Ob.row (71:TypeId) tPm x8] ++ [] }) (.cond (decide (e4 < (1:Int))) (.leaf { res:=SV.int IntKind.i64 (2:Int),boxes:=[[SV.int IntKind.i64 x0,SV.int IntKind.i64 x1,SV.int IntKind.i64 x2,SV.int IntKind.i64 x3,SV.int IntKind.i64 x4,SV.own (nat_lit 50),SV.sl tIs x6,SV.int IntKind.i64 x7,SV.own (nat_lit 51),SV.int IntKind.i64 x9]],news:=[Ob.row (26:TypeId) tEl x5,Ob.row (71:TypeId) tPm x8] ++ [] }) (.cond (decide (e4 > (16777216:Int))) (.leaf { res:=SV.int IntKind.i64 (2:Int),boxes:=[[SV.int IntKind.i64 x0,SV.int IntKind.i64 x1,SV.int IntKind.i64 x2,SV.int IntKind.i64 x3,SV.int IntKind.i64 x4,SV.own (nat_lit 50),SV.sl tIs x6,SV.int IntKind.i64 x7,SV.own (nat_lit 51),SV.int IntKind.i64 x9]],news:=[Ob.row (26:TypeId) tEl x5,Ob.row (71:TypeId) tPm x8] ++ [] }) (Tree.fail (1030:Nat))))))):=by kernel_rfl
def c_test:MC P:=MC.of (α:=Unit × Entry × Int × Int × Int × Int × Int × List E4 × List (List Int) × Int × List Pm × Int × Unit) 81 L_test (fun x => x) (fun x => x) (fun _ => rfl)
  (fun _ => none)
  (fun (_,e,x0,x1,x2,x3,x4,x5,x6,x7,x8,x9,_) => ⟨.int .i64 (tstE x5 e),[siteO (x0,x1,x2,x3,x4,(tstL x5 e,x6,x7),x8,x9)],siteN (x0,x1,x2,x3,x4,(tstL x5 e,x6,x7),x8,x9)⟩) (by kernel_rfl) (by kernel_rfl) (by kernel_rfl) (by
    rintro ⟨⟨⟩,⟨e0,e1,e2,e3,e4,e5⟩,x0,x1,x2,x3,x4,x5,x6,x7,x8,x9,⟨⟩⟩ hp
    refine m_of hm (own:=true) (by kernel_rfl) (by kernel_rfl) (by kernel_rfl) (T_test e0 e1 e2 e3 e4 e5 x0 x1 x2 x3 x4 x5 x6 x7 x8 x9) trivial ?_
    have fin:∀ (m:Int) (l:List E4),m = tstE x5 (e0,e1,e2,e3,e4,e5) → l = tstL x5 (e0,e1,e2,e3,e4,e5) → (⟨.int .i64 m,[siteO (x0,x1,x2,x3,x4,(l,x6,x7),x8,x9)],siteN (x0,x1,x2,x3,x4,(l,x6,x7),x8,x9)⟩ : MOut) = ⟨.int .i64 (tstE x5 (e0,e1,e2,e3,e4,e5)),[siteO (x0,x1,x2,x3,x4,(tstL x5 (e0,e1,e2,e3,e4,e5),x6,x7),x8,x9)],siteN (x0,x1,x2,x3,x4,(tstL x5 (e0,e1,e2,e3,e4,e5),x6,x7),x8,x9)⟩:=fun m l h1 h2 => by rw [h1,h2]
    
    have bad:∀ n:Int,n ≠ 0 → tstE x5 (e0,e1,e2,e3,e4,e5) = n → (⟨.int .i64 n,[siteO (x0,x1,x2,x3,x4,(x5,x6,x7),x8,x9)],siteN (x0,x1,x2,x3,x4,(x5,x6,x7),x8,x9)⟩ : MOut) = _:=fun n h0 h => fin n x5 h.symm (by unfold tstL; rw [h,if_neg h0])
    refine ⟨fun c1 => ?_,fun c1 => ?_⟩
    · have d1:inRg x5.length e3:=of_decide_eq_true c1
      have d2:e3.toNat < x5.length:=by have:=d1.1; have:=d1.2; omega
      have f1:∀ n:Int,(if wi e5 1 68719476736 = false then 2 else if e4 < 1 then 2 else if e4 > 16777216 then 2 else if alvB (gEl x5 e3) = false then 10 else 0) = n → tstE x5 (e0,e1,e2,e3,e4,e5) = n:=fun n h => by unfold tstE; rw [if_neg (fun k => k d1)]; exact h
      refine ⟨d1,⟨fun c2 => (by cases c2),fun _ => ⟨fun c2 => bad _ (by decide) (f1 _ (if_pos (notT c2))),fun c2 => ⟨fun c3 => bad _ (by decide) (f1 _ ?_),fun c3 => ⟨fun c4 => bad _ (by decide) (f1 _ ?_),fun c4 => ⟨⟨d2,trivial⟩,⟨fun c6 => bad _ (by decide) (f1 _ ?_),fun c6 => ⟨d2,?_⟩⟩⟩⟩⟩⟩⟩⟩
      all_goals have q2:¬ wi e5 1 68719476736 = false:=by rw [notF c2]; decide
      · rw [if_neg q2,if_pos (of_decide_eq_true c3)]
      · rw [if_neg q2,if_neg (of_decide_eq_false c3),if_pos (of_decide_eq_true c4)]
      · have d6:alvB (gEl x5 e3) = false:=notT c6
        rw [if_neg q2,if_neg (of_decide_eq_false c3),if_neg (of_decide_eq_false c4),if_pos d6]
      · have d6:alvB (gEl x5 e3) = true:=notF c6
        have e:=f1 0 (by rw [if_neg q2,if_neg (of_decide_eq_false c3),if_neg (of_decide_eq_false c4),if_neg (by rw [d6]; decide)])
        exact fin 0 _ e.symm (by unfold tstL; rw [if_pos e]; rfl)
    · have d1:¬ inRg x5.length e3:=of_decide_eq_false c1
      have e:tstE x5 (e0,e1,e2,e3,e4,e5) = 2:=by unfold tstE; rw [if_pos d1]
      exact ⟨d1,⟨fun c7 => bad 2 (by decide) e,fun c7 => (by cases c7)⟩⟩)
def L_fail:Lay:={ slots:=[(0,.ptr 1 0),(1,.agg tEntry)],boxes:=[(1,siteL)] }
theorem T_fail (e0 e1 e2 e3 e4 e5:Int) (x0 x1 x2 x3 x4:Int) (x5:List E4) (x6:List (List Int)) (x7:Int) (x8:List Pm) (x9:Int):mTree (P:=P) [c_elem,c_aliveO] (lpOf []) Tryz.f82 L_fail true ((),(e0,e1,e2,e3,e4,e5),x0,x1,x2,x3,x4,x5,x6,x7,x8,x9,()) =
  Tree.cond (decide (inRg (List.length x5) e3)) (.need (inRg (List.length x5) e3) (.cond false (.leaf { res:=SV.int IntKind.i64 (2:Int),boxes:=[[SV.int IntKind.i64 x0,SV.int IntKind.i64 x1,SV.int IntKind.i64 x2,SV.int IntKind.i64 x3,SV.int IntKind.i64 x4,SV.own (nat_lit 50),SV.sl tIs x6,SV.int IntKind.i64 x7,SV.own (nat_lit 51),SV.int IntKind.i64 x9]],news:=[Ob.row (26:TypeId) tEl x5,Ob.row (71:TypeId) tPm x8] ++ [] }) (.need (Int.toNat e3 < List.length x5 ∧ True) (.cond (!alvB (List.getD x5 (Int.toNat e3) (0,0,0,0))) (.leaf { res:=SV.int IntKind.i64 (10:Int),boxes:=[[SV.int IntKind.i64 x0,SV.int IntKind.i64 x1,SV.int IntKind.i64 x2,SV.int IntKind.i64 x3,SV.int IntKind.i64 x4,SV.own (nat_lit 50),SV.sl tIs x6,SV.int IntKind.i64 x7,SV.own (nat_lit 51),SV.int IntKind.i64 x9]],news:=[Ob.row (26:TypeId) tEl x5,Ob.row (71:TypeId) tPm x8] ++ [] }) (.need (Int.toNat e3 < List.length x5) (.leaf { res:=SV.int IntKind.i64 (0:Int),boxes:=[[SV.int IntKind.i64 x0,SV.int IntKind.i64 x1,SV.int IntKind.i64 x2,SV.int IntKind.i64 x3,SV.int IntKind.i64 x4,SV.own (nat_lit 50),SV.sl tIs x6,SV.int IntKind.i64 x7,SV.own (nat_lit 51),SV.int IntKind.i64 x9]],news:=[Ob.row (26:TypeId) tEl (List.set x5 (Int.toNat e3) ((3:Int),(List.getD x5 (Int.toNat e3) (0,0,0,0)).snd)),Ob.row (71:TypeId) tPm x8] ++ [] })))))) (.need (¬inRg (List.length x5) e3) (.cond true (.leaf { res:=SV.int IntKind.i64 (2:Int),boxes:=[[SV.int IntKind.i64 x0,SV.int IntKind.i64 x1,SV.int IntKind.i64 x2,SV.int IntKind.i64 x3,SV.int IntKind.i64 x4,SV.own (nat_lit 50),SV.sl tIs x6,SV.int IntKind.i64 x7,SV.own (nat_lit 51),SV.int IntKind.i64 x9]],news:=[Ob.row (26:TypeId) tEl x5,Ob.row (71:TypeId) tPm x8] ++ [] }) (Tree.fail (1014:Nat)))):=by kernel_rfl
def c_fail:MC P:=MC.of (α:=Unit × Entry × Int × Int × Int × Int × Int × List E4 × List (List Int) × Int × List Pm × Int × Unit) 82 L_fail (fun x => x) (fun x => x) (fun _ => rfl)
  (fun _ => none)
  (fun (_,e,x0,x1,x2,x3,x4,x5,x6,x7,x8,x9,_) => ⟨.int .i64 (falE x5 e.2.2.2.1),[siteO (x0,x1,x2,x3,x4,(falL x5 e.2.2.2.1,x6,x7),x8,x9)],siteN (x0,x1,x2,x3,x4,(falL x5 e.2.2.2.1,x6,x7),x8,x9)⟩) (by kernel_rfl) (by kernel_rfl) (by kernel_rfl) (by
    rintro ⟨⟨⟩,⟨e0,e1,e2,e3,e4,e5⟩,x0,x1,x2,x3,x4,x5,x6,x7,x8,x9,⟨⟩⟩ hp
    refine m_of hm (own:=true) (by kernel_rfl) (by kernel_rfl) (by kernel_rfl) (T_fail e0 e1 e2 e3 e4 e5 x0 x1 x2 x3 x4 x5 x6 x7 x8 x9) trivial ?_
    have fin:∀ (m:Int) (l:List E4),m = falE x5 e3 → l = falL x5 e3 → (⟨.int .i64 m,[siteO (x0,x1,x2,x3,x4,(l,x6,x7),x8,x9)],siteN (x0,x1,x2,x3,x4,(l,x6,x7),x8,x9)⟩ : MOut) = ⟨.int .i64 (falE x5 e3),[siteO (x0,x1,x2,x3,x4,(falL x5 e3,x6,x7),x8,x9)],siteN (x0,x1,x2,x3,x4,(falL x5 e3,x6,x7),x8,x9)⟩:=fun m l h1 h2 => by rw [h1,h2]
    
    refine ⟨fun c1 => ?_,fun c1 => ?_⟩
    · have d1:inRg x5.length e3:=of_decide_eq_true c1
      have d2:e3.toNat < x5.length:=by have:=d1.1; have:=d1.2; omega
      refine ⟨d1,⟨fun c2 => (by cases c2),fun c2 => ⟨⟨d2,trivial⟩,⟨fun c3 => ?_,fun c3 => ⟨d2,?_⟩⟩⟩⟩⟩
      · have d3:alvB (gEl x5 e3) = false:=notT c3
        have e:falE x5 e3 = 10:=by unfold falE; rw [if_neg (fun k => k d1),if_pos d3]
        exact fin 10 x5 e.symm (by unfold falL; rw [e,if_neg (by decide)])
      · have d3:alvB (gEl x5 e3) = true:=notF c3
        have e:falE x5 e3 = 0:=by unfold falE; rw [if_neg (fun k => k d1),if_neg (by rw [d3]; decide)]
        exact fin 0 _ e.symm (by unfold falL; rw [if_pos e]; rfl)
    · have d1:¬ inRg x5.length e3:=of_decide_eq_false c1
      have e:falE x5 e3 = 2:=by unfold falE; rw [if_pos d1]
      exact ⟨d1,⟨fun c5 => fin 2 x5 e.symm (by unfold falL; rw [e,if_neg (by decide)]),fun c5 => (by cases c5)⟩⟩)
def L_remove:Lay:={ slots:=[(0,.ptr 1 0),(1,.agg tEntry)],boxes:=[(1,siteL)] }
theorem T_remove (e0 e1 e2 e3 e4 e5:Int) (x0 x1 x2 x3 x4:Int) (x5:List E4) (x6:List (List Int)) (x7:Int) (x8:List Pm) (x9:Int):mTree (P:=P) [c_elem,c_keepsX.gc] (lpOf []) Tryz.f83 L_remove true ((),(e0,e1,e2,e3,e4,e5),x0,x1,x2,x3,x4,x5,x6,x7,x8,x9,()) =
  Tree.cond (decide (inRg (List.length x5) e3)) (.need (inRg (List.length x5) e3) (.cond false (.leaf { res:=SV.int IntKind.i64 (2:Int),boxes:=[[SV.int IntKind.i64 x0,SV.int IntKind.i64 x1,SV.int IntKind.i64 x2,SV.int IntKind.i64 x3,SV.int IntKind.i64 x4,SV.own (nat_lit 50),SV.sl tIs x6,SV.int IntKind.i64 x7,SV.own (nat_lit 51),SV.int IntKind.i64 x9]],news:=[Ob.row (26:TypeId) tEl x5,Ob.row (71:TypeId) tPm x8] ++ [] }) (.need (Int.toNat e3 < List.length x5) (.cond ((List.getD x5 (Int.toNat e3) (0,0,0,0)).fst == (0:Int)) (.leaf { res:=SV.int IntKind.i64 (10:Int),boxes:=[[SV.int IntKind.i64 x0,SV.int IntKind.i64 x1,SV.int IntKind.i64 x2,SV.int IntKind.i64 x3,SV.int IntKind.i64 x4,SV.own (nat_lit 50),SV.sl tIs x6,SV.int IntKind.i64 x7,SV.own (nat_lit 51),SV.int IntKind.i64 x9]],news:=[Ob.row (26:TypeId) tEl x5,Ob.row (71:TypeId) tPm x8] ++ [] }) (.need (Int.toNat e3 < List.length x5) (.need (houseE (List.set x5 (Int.toNat e3) ((0:Int),(0:Int),(0:Int),(0:Int)),x6,x7) = (0:Int) ∧ List.length x8 ≤ (1000:Nat)) (.cond (!keepS (x0,x1,x2,x3,x4,(List.set x5 (Int.toNat e3) ((0:Int),(0:Int),(0:Int),(0:Int)),x6,x7),x8,x9) e0) (.leaf { res:=SV.int IntKind.i64 (15:Int),boxes:=[[SV.int IntKind.i64 x0,SV.int IntKind.i64 x1,SV.int IntKind.i64 x2,SV.int IntKind.i64 x3,SV.int IntKind.i64 x4,SV.own (nat_lit 50),SV.sl tIs x6,SV.int IntKind.i64 x7,SV.own (nat_lit 51),SV.int IntKind.i64 x9]],news:=[Ob.row (26:TypeId) tEl (List.set x5 (Int.toNat e3) ((0:Int),(0:Int),(0:Int),(0:Int))),Ob.row (71:TypeId) tPm x8] ++ [] }) (.leaf { res:=SV.int IntKind.i64 (0:Int),boxes:=[[SV.int IntKind.i64 x0,SV.int IntKind.i64 x1,SV.int IntKind.i64 x2,SV.int IntKind.i64 x3,SV.int IntKind.i64 x4,SV.own (nat_lit 50),SV.sl tIs x6,SV.int IntKind.i64 x7,SV.own (nat_lit 51),SV.int IntKind.i64 x9]],news:=[Ob.row (26:TypeId) tEl (List.set x5 (Int.toNat e3) ((0:Int),(0:Int),(0:Int),(0:Int))),Ob.row (71:TypeId) tPm x8] ++ [] })))))))) (.need (¬inRg (List.length x5) e3) (.cond true (.leaf { res:=SV.int IntKind.i64 (2:Int),boxes:=[[SV.int IntKind.i64 x0,SV.int IntKind.i64 x1,SV.int IntKind.i64 x2,SV.int IntKind.i64 x3,SV.int IntKind.i64 x4,SV.own (nat_lit 50),SV.sl tIs x6,SV.int IntKind.i64 x7,SV.own (nat_lit 51),SV.int IntKind.i64 x9]],news:=[Ob.row (26:TypeId) tEl x5,Ob.row (71:TypeId) tPm x8] ++ [] }) (Tree.fail (1014:Nat)))):=by kernel_rfl
def c_remove:MC P:=MC.of (α:=Unit × Entry × Int × Int × Int × Int × Int × List E4 × List (List Int) × Int × List Pm × Int × Unit) 83 L_remove (fun x => x) (fun x => x) (fun _ => rfl)
  (fun (_,e,x0,x1,x2,x3,x4,x5,x6,x7,x8,x9,_) => some (houseE (remL x5 e.2.2.2.1,x6,x7) = 0 ∧ x8.length ≤ 1000))
  (fun (_,e,x0,x1,x2,x3,x4,x5,x6,x7,x8,x9,_) => ⟨.int .i64 (remE (x0,x1,x2,x3,x4,(x5,x6,x7),x8,x9) e),[siteO (x0,x1,x2,x3,x4,(remL x5 e.2.2.2.1,x6,x7),x8,x9)],siteN (x0,x1,x2,x3,x4,(remL x5 e.2.2.2.1,x6,x7),x8,x9)⟩) (by kernel_rfl) (by kernel_rfl) (by kernel_rfl) (by
    rintro ⟨⟨⟩,⟨e0,e1,e2,e3,e4,e5⟩,x0,x1,x2,x3,x4,x5,x6,x7,x8,x9,⟨⟩⟩ hp
    refine m_of hm (own:=true) (by kernel_rfl) (by kernel_rfl) (by kernel_rfl) (T_remove e0 e1 e2 e3 e4 e5 x0 x1 x2 x3 x4 x5 x6 x7 x8 x9) trivial ?_
    have fin:∀ (m:Int) (l:List E4),m = remE (x0,x1,x2,x3,x4,(x5,x6,x7),x8,x9) (e0,e1,e2,e3,e4,e5) → l = remL x5 e3 → (⟨.int .i64 m,[siteO (x0,x1,x2,x3,x4,(l,x6,x7),x8,x9)],siteN (x0,x1,x2,x3,x4,(l,x6,x7),x8,x9)⟩ : MOut) = ⟨.int .i64 (remE (x0,x1,x2,x3,x4,(x5,x6,x7),x8,x9) (e0,e1,e2,e3,e4,e5)),[siteO (x0,x1,x2,x3,x4,(remL x5 e3,x6,x7),x8,x9)],siteN (x0,x1,x2,x3,x4,(remL x5 e3,x6,x7),x8,x9)⟩:=fun m l h1 h2 => by rw [h1,h2]
    
    obtain ⟨p1,p2⟩ : houseE (remL x5 e3,x6,x7) = 0 ∧ x8.length ≤ 1000:=hp
    refine ⟨fun c1 => ?_,fun c1 => ?_⟩
    · have d1:inRg x5.length e3:=of_decide_eq_true c1
      have d2:e3.toNat < x5.length:=by have:=d1.1; have:=d1.2; omega
      have key:(gEl x5 e3).1 ≠ 0 → remQ x5 e3 = 0 ∧ remL x5 e3 = x5.set e3.toNat (0,0,0,0):=fun h => by
        have q:remQ x5 e3 = 0:=by unfold remQ; rw [if_neg (fun k => k d1),if_neg h]
        exact ⟨q,by unfold remL; rw [if_pos q]⟩
      refine ⟨d1,⟨fun c2 => (by cases c2),fun c2 => ⟨d2,⟨fun c3 => ?_,fun c3 => ?_⟩⟩⟩⟩
      · have d3:(gEl x5 e3).1 = 0:=eq_of_beq c3
        have q:remQ x5 e3 = 10:=by unfold remQ; rw [if_neg (fun k => k d1),if_pos d3]
        have e:remE (x0,x1,x2,x3,x4,(x5,x6,x7),x8,x9) (e0,e1,e2,e3,e4,e5) = 10:=by unfold remE; rw [if_pos (by rw [q]; decide)]; exact q
        exact fin 10 x5 e.symm (by unfold remL; rw [q,if_neg (by decide)])
      · have d3:(gEl x5 e3).1 ≠ 0:=ne_of_beq_false c3
        obtain ⟨q1,q2⟩:=key d3
        rw [q2] at p1
        refine ⟨d2,⟨⟨p1,p2⟩,⟨fun c4 => ?_,fun c4 => ?_⟩⟩⟩
        · have d4:keepS (x0,x1,x2,x3,x4,(x5.set e3.toNat (0,0,0,0),x6,x7),x8,x9) e0 = false:=by simpa using c4
          have e:remE (x0,x1,x2,x3,x4,(x5,x6,x7),x8,x9) (e0,e1,e2,e3,e4,e5) = 15:=by
            unfold remE
            rw [if_neg (fun k => k q1),if_pos]
            show keepS (x0,x1,x2,x3,x4,(remL x5 e3,x6,x7),x8,x9) e0 = false
            rw [q2]; exact d4
          exact fin 15 _ e.symm q2.symm
        · have d4:keepS (x0,x1,x2,x3,x4,(x5.set e3.toNat (0,0,0,0),x6,x7),x8,x9) e0 = true:=by simpa using c4
          have e:remE (x0,x1,x2,x3,x4,(x5,x6,x7),x8,x9) (e0,e1,e2,e3,e4,e5) = 0:=by
            unfold remE
            rw [if_neg (fun k => k q1),if_neg]
            show ¬ keepS (x0,x1,x2,x3,x4,(remL x5 e3,x6,x7),x8,x9) e0 = false
            rw [q2,d4]; decide
          exact fin 0 _ e.symm q2.symm
    · have d1:¬ inRg x5.length e3:=of_decide_eq_false c1
      have q:remQ x5 e3 = 2:=by unfold remQ; rw [if_pos d1]
      have e:remE (x0,x1,x2,x3,x4,(x5,x6,x7),x8,x9) (e0,e1,e2,e3,e4,e5) = 2:=by unfold remE; rw [if_pos (by rw [q]; decide)]; exact q
      exact ⟨d1,⟨fun c5 => fin 2 x5 e.symm (by unfold remL; rw [q,if_neg (by decide)]),fun c5 => (by cases c5)⟩⟩)
end
end Go.MB
