/- Lines of the earth at the example's line, and the example. -/
import Derived.Test.YtdoobpeacbcohaaGreatMvR
import Derived.Test.YtdoobpeacbcohaaGreatMwI
namespace Go.MP
open Go Go.Sx Go.Proofs
set_option linter.unusedVariables false
set_option linter.unusedSimpArgs false
noncomputable section
def collapse {β:Type}:Tree β → Tree β
  | .leaf b => .leaf b
  | .cond c t e => bif c then collapse t else collapse e
  | .need p t => .need p (collapse t)
  | .fail n => .fail n
theorem collapse_holds {β:Type} {Q:β → Prop}:∀ {t:Tree β},(collapse t).holds Q → t.holds Q
  | .leaf b,h => h
  | .cond true t e,h => ⟨fun _ => collapse_holds (t:=t) h,fun k => (by cases k)⟩
  | .cond false t e,h => ⟨fun k => (by cases k),fun _ => collapse_holds (t:=e) h⟩
  | .need p t,h => ⟨h.1,collapse_holds h.2⟩
  | .fail n,h => h
def k3:List K2:=[(0,0),(50000,50000),(100000,90000)]
theorem T_ewithin (n a b:Int):fnTree (P:=P) [] (lpOf []) Tryz.f97 (encL 0 [.val tI,.val tI,.val tI] (n,a,b,())) =
  Tree.cond (decide (a ≤ n)) (.leaf (SV.bool (decide (n ≤ b)))) (.leaf (SV.bool false)):=by kernel_rfl
def c_ewithin:PC P:=PC.of (α:=Int × Int × Int × Unit) 97 [.val tI,.val tI,.val tI] (fun x => x) (fun x => x) (fun _ => rfl)
  (fun _ => none)
  (fun x => .bool (wi x.1 x.2.1 x.2.2.1)) (by kernel_rfl) (by
    rintro ⟨n,a,b,⟨⟩⟩ hp
    refine fn_of hm (by kernel_rfl) (by kernel_rfl) (T_ewithin n a b) trivial ?_
    try dsimp only at hp
    try dsimp only
    refine ⟨fun c1 => ?_,fun c1 => ?_⟩
    · exact congrArg SV.bool (show _ = wi n a b by unfold wi; rw [c1,Bool.true_and])
    · exact congrArg SV.bool (show _ = wi n a b by unfold wi; rw [c1,Bool.false_and]))
def ckL (at' v:Int):Int → List K2 → Int
  | _,[] => 0
  | last,k :: r => if wi k.1 0 at' = false ∨ wi k.2 0 v = false then 2 else if k.1 ≤ last then 11 else ckL at' v k.1 r
theorem ckL_step {at' v last:Int} {l:List K2} {i:Int} (h0:0 ≤ i) (h:i < l.length):ckL at' v last (l.drop i.toNat) = if wi (l.getD i.toNat (0,0)).1 0 at' = false ∨ wi (l.getD i.toNat (0,0)).2 0 v = false then 2 else if (l.getD i.toNat (0,0)).1 ≤ last then 11 else ckL at' v (l.getD i.toNat (0,0)).1 (l.drop (i + 1).toNat):=by
  rw [drop_step (0,0) h0 h,ckL]
def lineE (l:List K2) (at' v:Int):Int:=if wi at' 0 1099511627776 = false ∨ wi v 0 68719476736 = false then 2 else if l.length = 0 then 6 else if l.length > 24 then 8 else ckL at' v (-1) l
def L_eline1:Lay:={ slots:=[(1,.val tI),(2,.val tI),(7,.val tI),(30,.val (.sl tPart)),(31,.val tI),(32,.val tI)] }
def L_eline1_0:Lay:={ slots:=[(6,.val tI)] }
def L_eline1_1:Lay:={ slots:=[] }
def X_eline1:Exit → St → Option Lay
  | .ret,_ => some L_eline1_0
  | .exit 1,_ => some L_eline1_1
  | _,_ => none
abbrev C_eline1:Code:=loopC (bodyOf Tryz.f77) 1
theorem B_eline1 (at' v last:Int) (l:List (Int × Int)) (n i:Int):loopBodyA (P:=P) [c_ewithin.gc] (lpOf []) [] 55 noU (inner C_eline1) L_eline1 X_eline1 (α:=Int × Int × Int × List (Int × Int) × Int × Int × Unit) (fun x => x) (fun x => x) (at',v,last,l,n,i,()) =
  Tree.cond (decide (i < n)) (.need ((0:Int) ≤ i ∧ i < (l.length:Int)) (.cond (!wi (List.getD l (Int.toNat i) (0,0)).fst (0:Int) at') (.leaf (Sum.inr (Exit.ret,Lay.st L_eline1_0 noU ((2:Int),())))) (.cond (!wi (List.getD l (Int.toNat i) (0,0)).snd (0:Int) v) (.leaf (Sum.inr (Exit.ret,Lay.st L_eline1_0 noU ((2:Int),())))) (.cond (decide ((List.getD l (Int.toNat i) (0,0)).fst ≤ last)) (.leaf (Sum.inr (Exit.ret,Lay.st L_eline1_0 noU ((11:Int),())))) (.leaf (Sum.inl (at',v,(List.getD l (Int.toNat i) (0,0)).fst,l,n,IntKind.i64.wrap (i + (1:Int)),()))))))) (.leaf (Sum.inr (Exit.exit (1:Nat),Lay.st L_eline1_1 noU ()))):=by kernel_rfl
def inv_eline1:Int × Int × Int × List (Int × Int) × Int × Int × Unit → Prop:=fun (at',v,last,l,n,i,()) => 0 ≤ i ∧ i ≤ n ∧ n = l.length ∧ l.length ≤ 24
def O_eline1:Int × Int × Int × List (Int × Int) × Int × Int × Unit → Tree (Exit × St):=fun (at',v,last,l,n,i,()) => .cond (decide (ckL at' v last (l.drop i.toNat) = 0)) (.leaf (.exit 1,L_eline1_1.st noU ())) (.leaf (.ret,L_eline1_0.st noU ((ckL at' v last (l.drop i.toNat)),())))
def R_eline1:LRun:=runOf 55 L_eline1 (fun x => x) (inv_eline1) (O_eline1)
theorem K_eline1:LoopOk P [] 55 none noU C_eline1 (R_eline1):=by
  refine loop_of hm (cx:=[c_ewithin.gc]) [] (xl:=X_eline1) (α:=Int × Int × Int × List (Int × Int) × Int × Int × Unit) (fun x => x) (fun (at',v,last,l,n,i,()) => (n - i).toNat) (fun _ => rfl) (by kernel_rfl) (by kernel_rfl) ?_ (by kernel_rfl) trivial ?_
  · intro e S L' h
    unfold X_eline1 at h
    split at h <;> first | (cases h; done) | (cases h; kernel_rfl) | (rcases bif_some h with h | h <;> cases h <;> kernel_rfl)
  · rintro ⟨at',v,last,l,n,i,⟨⟩⟩ hinv Q hQ
    refine hold_of_eq (B_eline1 at' v last l n i) ?_
    obtain ⟨h0,h1,rfl,h2⟩:=hinv
    rw [W_id (n:=i + 1) (by omega) (by omega)]
    unfold O_eline1 at hQ
    dsimp only at hQ
    refine ⟨fun d1 => ?_,fun d1 => ?_⟩
    · have d1:=of_decide_eq_true d1
      rw [ckL_step h0 d1] at hQ
      generalize l.getD i.toNat (0,0) = k at *
      refine ⟨⟨h0,d1⟩,fun d2 => ?_,fun d2 => ⟨fun d3 => ?_,fun d3 => ⟨fun d4 => ?_,fun d4 => ?_⟩⟩⟩
      · rw [if_pos (.inl (by simpa using d2))] at hQ
        exact hQ.2 rfl
      · rw [if_pos (.inr (by simpa using d3))] at hQ
        exact hQ.2 rfl
      · have e2:wi k.1 0 at' = true:=by simpa using d2
        have e3:wi k.2 0 v = true:=by simpa using d3
        rw [if_neg (by rw [e2,e3]; simp),if_pos (of_decide_eq_true d4)] at hQ
        exact hQ.2 rfl
      · have e2:wi k.1 0 at' = true:=by simpa using d2
        have e3:wi k.2 0 v = true:=by simpa using d3
        rw [if_neg (by rw [e2,e3]; simp),if_neg (of_decide_eq_false d4)] at hQ
        exact ⟨⟨⟨by omega,by omega,rfl,h2⟩,by show ((l.length:Int) - (i + 1)).toNat < ((l.length:Int) - i).toNat; omega⟩,hQ⟩
    · have d1:=of_decide_eq_false d1
      rw [drop_end d1] at hQ
      exact hQ.1 rfl
theorem T_eline (l_0:List (Int × Int)) (at' v:Int):fnTree (P:=P) [c_ewithin.gc] (lpOf [(1,R_eline1)]) Tryz.f77 (encL 0 [.agg (.sl tPart),.val tI,.val tI] (l_0,at',v,())) =
  Tree.cond (!wi at' (0:Int) (1099511627776:Int)) (.leaf (SV.int IntKind.i64 (2:Int))) (.cond (!wi v (0:Int) (68719476736:Int)) (.leaf (SV.int IntKind.i64 (2:Int))) (.cond ((l_0.length:Int) == (0:Int)) (.leaf (SV.int IntKind.i64 (6:Int))) (.cond (decide ((l_0.length:Int) > (24:Int))) (.leaf (SV.int IntKind.i64 (8:Int))) (.need (inv_eline1 (at',v,(-1:Int),l_0,(l_0.length:Int),(0:Int),())) (.cond (decide (ckL at' v (-1:Int) (List.drop (Int.toNat (0:Int)) l_0) = (0:Int))) (.leaf (SV.int IntKind.i64 (0:Int))) (.leaf (SV.int IntKind.i64 (ckL at' v (-1:Int) (List.drop (Int.toNat (0:Int)) l_0))))))))):=by kernel_rfl
def c_eline:PC P:=PC.of (α:=List (Int × Int) × Int × Int × Unit) 77 [.agg (.sl tPart),.val tI,.val tI] (fun x => x) (fun x => x) (fun _ => rfl)
  (fun x => some (x.1.length ≤ 1000))
  (fun x => .int .i64 (lineE x.1 x.2.1 x.2.2.1)) (by kernel_rfl) (by
    rintro ⟨l_0,at',v,⟨⟩⟩ hp
    refine fn_of hm (by kernel_rfl) (by kernel_rfl) (T_eline l_0 at' v) ⟨K_eline1,trivial⟩ ?_
    try dsimp only at hp
    try dsimp only
    have fin:∀ n:Int,lineE l_0 at' v = n → SV.int .i64 n = SV.int .i64 (lineE l_0 at' v):=fun n h => by rw [h]
    unfold lineE at fin ⊢
    refine ⟨fun c1 => fin _ ?_,fun c1 => ⟨fun c2 => fin _ ?_,fun c2 => ⟨fun c3 => fin _ ?_,fun c3 => ⟨fun c4 => fin _ ?_,fun c4 => ⟨⟨by decide,by omega,rfl,?_⟩,fun c5 => fin _ ?_,fun c5 => fin _ ?_⟩⟩⟩⟩⟩
    · rw [if_pos (.inl (by simpa using c1))]
    · rw [if_pos (.inr (by simpa using c2))]
    all_goals have e1:wi at' 0 1099511627776 = true:=by simpa using c1
    all_goals have e2:wi v 0 68719476736 = true:=by simpa using c2
    all_goals try rw [if_neg (by rw [e1,e2]; simp)]
    · rw [if_pos (by simpa using c3)]
    · have c4:=of_decide_eq_true c4
      rw [if_neg (by simpa using c3),if_pos (by omega)]
    · have c4:=of_decide_eq_false c4
      omega
    all_goals have c4:=of_decide_eq_false c4
    all_goals rw [if_neg (by simpa using c3),if_neg (by omega)]
    · exact of_decide_eq_true c5
    · rfl)
def badLn (l:List K2):Bool:=decide (lineE l 1048576 68719476736 ≠ 0) && decide (lineE l 1099511627776 1048576 ≠ 0)
theorem T_eright1 (l_0:List (Int × Int)):fnTree (P:=P) [c_eline.gc] (lpOf []) Tryz.f76 (encL 0 [.agg (.sl tPart)] (l_0,())) =
  Tree.need (List.length l_0 ≤ (1000:Nat)) (.cond (lineE l_0 (1048576:Int) (68719476736:Int) != (0:Int)) (.need (List.length l_0 ≤ (1000:Nat)) (.leaf (SV.bool (lineE l_0 (1099511627776:Int) (1048576:Int) != (0:Int))))) (.leaf (SV.bool false))):=by kernel_rfl
def c_eright1:PC P:=PC.of (α:=List (Int × Int) × Unit) 76 [.agg (.sl tPart)] (fun x => x) (fun x => x) (fun _ => rfl)
  (fun x => some (x.1.length ≤ 1000))
  (fun x => .bool (badLn x.1)) (by kernel_rfl) (by
    rintro ⟨l_0,⟨⟩⟩ hp
    refine fn_of hm (by kernel_rfl) (by kernel_rfl) (T_eright1 l_0) trivial ?_
    try dsimp only at hp
    try dsimp only
    have h:l_0.length ≤ 1000:=hp
    unfold badLn
    refine ⟨h,fun c1 => ⟨h,?_⟩,fun c1 => ?_⟩
    · rw [decide_eq_true (by simpa using c1),Bool.true_and]
      congr 1
      rw [Bool.eq_iff_iff]; simp
    · rw [decide_eq_false (by simpa using c1),Bool.false_and]; exact rfl)
theorem T_efloor (a b:Int):fnTree (P:=P) [] (lpOf []) Tryz.f101 (encL 0 [.val tI,.val tI] (a,b,())) =
  Tree.need (b ≠ (0:Int)) (.need (b ≠ (0:Int)) (.cond (decide (Int.tmod a b < (0:Int))) (.leaf (SV.int IntKind.i64 (IntKind.i64.wrap (IntKind.i64.wrap (Int.tdiv a b) - (1:Int))))) (.leaf (SV.int IntKind.i64 (IntKind.i64.wrap (Int.tdiv a b)))))):=by kernel_rfl
def c_efloor:PC P:=PC.of (α:=Int × Int × Unit) 101 [.val tI,.val tI] (fun x => x) (fun x => x) (fun _ => rfl)
  (fun x => some (x.1 = 1000000000 ∧ x.2.1 = 50000))
  (fun x => .int .i64 20000) (by kernel_rfl) (by
    rintro ⟨a,b,⟨⟩⟩ hp
    refine fn_of hm (by kernel_rfl) (by kernel_rfl) (T_efloor a b) trivial ?_
    try dsimp only at hp
    try dsimp only
    obtain ⟨rfl,rfl⟩ : a = 1000000000 ∧ b = 50000:=hp
    refine collapse_holds ?_
    repeat refine ⟨by decide +kernel,?_⟩
    rfl)
theorem T_epart (p_0 p_1 p_2 p_3 y:Int):fnTree (P:=P) [c_efloor.gc] (lpOf []) Tryz.f79 (encL 0 [.agg (.pair tPart tPart),.val tI] (((p_0,p_1),(p_2,p_3)),y,())) =
  Tree.need ((0:Int) ≤ (0:Int) ∧ (0:Int) < (↑(2:Nat):Int)) (.need ((0:Int) ≤ (1:Int) ∧ (1:Int) < (↑(2:Nat):Int)) (.cond (p_0 == p_2 && (p_1 == p_3 && true)) (.leaf (SV.tup [SV.int IntKind.i64 p_1,SV.int IntKind.i64 (0:Int),SV.int IntKind.i64 (1:Int)])) (.need (IntKind.i64.wrap (IntKind.i64.wrap (p_3 - p_1) * IntKind.i64.wrap (y - p_0)) = (1000000000:Int) ∧ IntKind.i64.wrap (p_2 - p_0) = (50000:Int)) (.leaf (SV.tup [SV.int IntKind.i64 (IntKind.i64.wrap (p_1 + (20000:Int))),SV.int IntKind.i64 (IntKind.i64.wrap (IntKind.i64.wrap (IntKind.i64.wrap (p_3 - p_1) * IntKind.i64.wrap (y - p_0)) - IntKind.i64.wrap ((20000:Int) * IntKind.i64.wrap (p_2 - p_0)))),SV.int IntKind.i64 (IntKind.i64.wrap (p_2 - p_0))]))))):=by kernel_rfl
def c_epart:PC P:=PC.of (α:=((Int × Int) × (Int × Int)) × Int × Unit) 79 [.agg (.pair tPart tPart),.val tI] (fun x => x) (fun x => x) (fun _ => rfl)
  (fun x => some (x.1 = ((50000,50000),(100000,90000)) ∧ x.2.1 = 75000))
  (fun x => .tup [.int .i64 70000,.int .i64 0,.int .i64 50000]) (by kernel_rfl) (by
    rintro ⟨⟨⟨p_0,p_1⟩,⟨p_2,p_3⟩⟩,y,⟨⟩⟩ hp
    refine fn_of hm (by kernel_rfl) (by kernel_rfl) (T_epart p_0 p_1 p_2 p_3 y) trivial ?_
    try dsimp only at hp
    try dsimp only
    obtain ⟨h1,rfl⟩ : ((p_0,p_1),(p_2,p_3)) = (((50000:Int),(50000:Int)),((100000:Int),(90000:Int))) ∧ y = 75000:=hp
    obtain ⟨h2,h3⟩:=Prod.mk.inj h1
    obtain ⟨rfl,rfl⟩:=Prod.mk.inj h2
    obtain ⟨rfl,rfl⟩:=Prod.mk.inj h3
    refine collapse_holds ?_
    repeat refine ⟨by decide +kernel,?_⟩
    rfl)
theorem T_enan (s0:Int):fnTree (P:=P) [] (lpOf []) Tryz.f109 (encL 0 [.val tI] (s0,())) =
  Tree.leaf (SV.bool (s0 != s0)):=by kernel_rfl
def c_enan:PC P:=PC.of (α:=Int × Unit) 109 [.val tI] (fun x => x) (fun x => x) (fun _ => rfl)
  (fun _ => none)
  (fun x => .bool false) (by kernel_rfl) (by
    rintro ⟨s0,⟨⟩⟩ hp
    refine fn_of hm (by kernel_rfl) (by kernel_rfl) (T_enan s0) trivial ?_
    try dsimp only at hp
    try dsimp only
    exact congrArg SV.bool (show (s0 != s0) = false by simp))
theorem T_ecmp (a b:Int):fnTree (P:=P) [c_enan.gc] (lpOf []) Tryz.f100 (encL 0 [.val tI,.val tI] (a,b,())) =
  Tree.cond false (.cond false (.leaf (SV.int IntKind.i64 (0:Int))) (.leaf (SV.int IntKind.i64 (-1:Int)))) (.cond false (.leaf (SV.int IntKind.i64 (1:Int))) (.cond (decide (a < b)) (.leaf (SV.int IntKind.i64 (-1:Int))) (.cond (decide (a > b)) (.leaf (SV.int IntKind.i64 (1:Int))) (.leaf (SV.int IntKind.i64 (0:Int)))))):=by kernel_rfl
def c_ecmp:PC P:=PC.of (α:=Int × Int × Unit) 100 [.val tI,.val tI] (fun x => x) (fun x => x) (fun _ => rfl)
  (fun _ => none)
  (fun x => .int .i64 (if x.1 < x.2.1 then -1 else if x.1 > x.2.1 then 1 else 0)) (by kernel_rfl) (by
    rintro ⟨a,b,⟨⟩⟩ hp
    refine fn_of hm (by kernel_rfl) (by kernel_rfl) (T_ecmp a b) trivial ?_
    try dsimp only at hp
    try dsimp only
    refine ⟨fun h => (by cases h),fun _ => ⟨fun h => (by cases h),fun _ => ⟨fun c => ?_,fun c => ⟨fun d => ?_,fun d => ?_⟩⟩⟩⟩
    · rw [if_pos (of_decide_eq_true c)]; exact rfl
    · rw [if_neg (of_decide_eq_false c),if_pos (of_decide_eq_true d)]; exact rfl
    · rw [if_neg (of_decide_eq_false c),if_neg (of_decide_eq_false d)]; exact rfl)
theorem T_efind1 (k_0 k_1 y:Int):fnTree (P:=P) [c_ecmp.gc] (lpOf []) Tryz.f99 (encL 0 [.agg tPart,.val tI] ((k_0,k_1),y,())) =
  Tree.leaf (SV.int IntKind.i64 (if k_0 < y then (-1:Int) else if k_0 > y then (1:Int) else (0:Int))):=by kernel_rfl
def c_efind1:PC P:=PC.of (α:=(Int × Int) × Int × Unit) 99 [.agg tPart,.val tI] (fun x => x) (fun x => x) (fun _ => rfl)
  (fun _ => none)
  (fun x => .int .i64 (if x.1.1 < x.2.1 then -1 else if x.1.1 > x.2.1 then 1 else 0)) (by kernel_rfl) (by
    rintro ⟨⟨k_0,k_1⟩,y,⟨⟩⟩ hp
    refine fn_of hm (by kernel_rfl) (by kernel_rfl) (T_efind1 k_0 k_1 y) trivial ?_
    exact rfl)
def L_bs0:Lay:={ slots:=[(0,.val (.sl tK)),(1,.val tI),(2,.fn 99)] }
def L_bsrch0:Lay:={ slots:=[(0,.val (.sl tK)),(1,.val tI),(2,.fn 99),(8,.val tI),(9,.val tI),(10,.val tI)] }
def L_bsrch0_0:Lay:={ slots:=[(0,.val (.sl tK)),(1,.val tI),(2,.fn 99),(8,.val tI),(9,.val tI)] }
def X_bsrch0:Exit → St → Option Lay
  | .exit 0,_ => some L_bsrch0_0
  | _,_ => none
abbrev C_bsrch0:Code:=loopC (bodyOf Tryz.f98) 0
theorem B_bsrch0 (l:List K2) (y n i j:Int):loopBodyA (P:=P) [c_efind1.gc] (lpOf []) [] 49 (usd noU (L_bs0.ids ++ rowIds rowBase L_bs0.shs)) (inner C_bsrch0) L_bsrch0 X_bsrch0 (α:=List K2 × Int × Unit × Int × Int × Int × Unit) (fun x => x) (fun x => x) (l,y,(),n,i,j,()) =
  Tree.cond (decide (i < j)) (.need ((0:Int) ≤ (1:Int)) (.need ((0:Int) ≤ IntKind.i64.wrap (shrI IntKind.u64 (IntKind.u64.wrap (IntKind.i64.wrap (i + j))) (1:Int)) ∧ IntKind.i64.wrap (shrI IntKind.u64 (IntKind.u64.wrap (IntKind.i64.wrap (i + j))) (1:Int)) < (l.length:Int)) (.cond (decide ((if (List.getD l (Int.toNat (IntKind.i64.wrap (shrI IntKind.u64 (IntKind.u64.wrap (IntKind.i64.wrap (i + j))) (1:Int)))) (0,0)).fst < y then (-1:Int) else if (List.getD l (Int.toNat (IntKind.i64.wrap (shrI IntKind.u64 (IntKind.u64.wrap (IntKind.i64.wrap (i + j))) (1:Int)))) (0,0)).fst > y then (1:Int) else (0:Int)) < (0:Int))) (.leaf (Sum.inl (l,y,(),n,IntKind.i64.wrap (IntKind.i64.wrap (shrI IntKind.u64 (IntKind.u64.wrap (IntKind.i64.wrap (i + j))) (1:Int)) + (1:Int)),j,()))) (.leaf (Sum.inl (l,y,(),n,i,IntKind.i64.wrap (shrI IntKind.u64 (IntKind.u64.wrap (IntKind.i64.wrap (i + j))) (1:Int)),())))))) (.leaf (Sum.inr (Exit.exit (0:Nat),Lay.st L_bsrch0_0 (usd noU (Lay.ids L_bs0 ++ rowIds rowBase (Lay.shs L_bs0))) (l,y,(),n,i,())))):=by kernel_rfl
def inv_bsrch0:List K2 × Int × Unit × Int × Int × Int × Unit → Prop:=fun (l,y,_,n,i,j,_) => l = k3 ∧ y = 75000 ∧ n = 3 ∧ ((i = 0 ∧ j = 3) ∨ (i = 2 ∧ j = 3) ∨ (i = 2 ∧ j = 2))
def O_bsrch0:List K2 × Int × Unit × Int × Int × Int × Unit → Tree (Exit × St):=fun (l,y,_,n,i,j,_) => .leaf (.exit 0,L_bsrch0_0.st (usd noU (L_bs0.ids ++ rowIds rowBase L_bs0.shs)) (l,y,(),n,(2:Int),()))
def R_bsrch0:LRun:=runOf 49 L_bsrch0 (fun x => x) (inv_bsrch0) (O_bsrch0)
theorem K_bsrch0:LoopOk P [] 49 none (usd noU (L_bs0.ids ++ rowIds rowBase L_bs0.shs)) C_bsrch0 (R_bsrch0):=by
  refine loop_of hm (cx:=[c_efind1.gc]) [] (xl:=X_bsrch0) (α:=List K2 × Int × Unit × Int × Int × Int × Unit) (fun x => x) (fun (l,y,_,n,i,j,_) => (j - i).toNat) (fun _ => rfl) (by kernel_rfl) (by kernel_rfl) ?_ (by kernel_rfl) trivial ?_
  · intro e S L' h
    unfold X_bsrch0 at h
    split at h <;> first | (cases h; done) | (cases h; kernel_rfl) | (rcases bif_some h with h | h <;> cases h <;> kernel_rfl)
  · rintro ⟨l,y,⟨⟩,n,i,j,⟨⟩⟩ hinv Q hQ
    refine hold_of_eq (B_bsrch0 l y n i j) ?_
    obtain ⟨rfl,rfl,rfl,h⟩:=hinv
    rcases h with ⟨rfl,rfl⟩ | ⟨rfl,rfl⟩ | ⟨rfl,rfl⟩
    · refine collapse_holds ?_
      exact ⟨by decide +kernel,by decide +kernel,⟨⟨rfl,rfl,rfl,.inr (.inl ⟨rfl,rfl⟩)⟩,by decide⟩,hQ⟩
    · refine collapse_holds ?_
      exact ⟨by decide +kernel,by decide +kernel,⟨⟨rfl,rfl,rfl,.inr (.inr ⟨rfl,rfl⟩)⟩,by decide⟩,hQ⟩
    · refine collapse_holds ?_
      exact hQ
def L_bsrch:Lay:={ slots:=[(0,.val (.sl tK)),(1,.val tI),(2,.fn 99)] }
theorem T_bsrch (l:List K2) (y:Int):mTree (P:=P) [c_efind1.gc] (lpOf [(0,R_bsrch0)]) Tryz.f98 L_bsrch true (l,y,(),()) =
  Tree.need (inv_bsrch0 (l,y,(),(l.length:Int),(0:Int),(l.length:Int),())) (.cond (decide ((2:Int) < (l.length:Int))) (.need ((0:Int) ≤ (2:Int) ∧ (2:Int) < (l.length:Int)) (.leaf { res:=SV.tup [SV.int IntKind.i64 (2:Int),SV.bool ((if (List.getD l (Int.toNat (2:Int)) (0,0)).fst < y then (-1:Int) else if (List.getD l (Int.toNat (2:Int)) (0,0)).fst > y then (1:Int) else (0:Int)) == (0:Int))],boxes:=[] })) (.leaf { res:=SV.tup [SV.int IntKind.i64 (2:Int),SV.bool false],boxes:=[] })):=by kernel_rfl
def c_bsrch:MC P:=MC.of (α:=List K2 × Int × Unit × Unit) 98 L_bsrch (fun x => x) (fun x => x) (fun _ => rfl)
  (fun (l,y,_,_) => some (l = k3 ∧ y = 75000))
  (fun (l,y,_,_) => ⟨.tup [.int .i64 2,.bool false],[],[]⟩) (by kernel_rfl) (by kernel_rfl) (by kernel_rfl) (by
    rintro ⟨l,y,⟨⟩,⟨⟩⟩ hp
    refine m_of hm (own:=true) (by kernel_rfl) (by kernel_rfl) (by kernel_rfl) (T_bsrch l y) ⟨K_bsrch0,trivial⟩ ?_
    obtain ⟨rfl,rfl⟩ : l = k3 ∧ y = 75000:=hp
    refine ⟨⟨rfl,rfl,rfl,.inl ⟨rfl,rfl⟩⟩,?_⟩
    refine collapse_holds ?_
    repeat refine ⟨by decide +kernel,?_⟩
    rfl)
theorem T_efind (l_0:List (Int × Int)) (y:Int):fnTree (P:=P) [c_bsrch.gc] (lpOf []) Tryz.f78 (encL 0 [.agg (.sl tPart),.val tI] (l_0,y,())) =
  Tree.need (l_0 = k3 ∧ y = (75000:Int)) (.cond false (.need ((0:Int) ≤ minI (2:Int) (IntKind.i64.wrap ((l_0.length:Int) - (1:Int))) ∧ minI (2:Int) (IntKind.i64.wrap ((l_0.length:Int) - (1:Int))) < (l_0.length:Int)) (.need ((0:Int) ≤ minI (2:Int) (IntKind.i64.wrap ((l_0.length:Int) - (1:Int))) ∧ minI (2:Int) (IntKind.i64.wrap ((l_0.length:Int) - (1:Int))) < (l_0.length:Int)) (.leaf (SV.agg [SV.int IntKind.i64 (List.getD l_0 (Int.toNat (minI (2:Int) (IntKind.i64.wrap ((l_0.length:Int) - (1:Int))))) (0,0)).fst,SV.int IntKind.i64 (List.getD l_0 (Int.toNat (minI (2:Int) (IntKind.i64.wrap ((l_0.length:Int) - (1:Int))))) (0,0)).snd,SV.int IntKind.i64 (List.getD l_0 (Int.toNat (minI (2:Int) (IntKind.i64.wrap ((l_0.length:Int) - (1:Int))))) (0,0)).fst,SV.int IntKind.i64 (List.getD l_0 (Int.toNat (minI (2:Int) (IntKind.i64.wrap ((l_0.length:Int) - (1:Int))))) (0,0)).snd])))) (.need ((0:Int) ≤ maxI (IntKind.i64.wrap ((2:Int) - (1:Int))) (0:Int) ∧ maxI (IntKind.i64.wrap ((2:Int) - (1:Int))) (0:Int) < (l_0.length:Int)) (.need ((0:Int) ≤ minI (2:Int) (IntKind.i64.wrap ((l_0.length:Int) - (1:Int))) ∧ minI (2:Int) (IntKind.i64.wrap ((l_0.length:Int) - (1:Int))) < (l_0.length:Int)) (.leaf (SV.agg [SV.int IntKind.i64 (List.getD l_0 (Int.toNat (maxI (IntKind.i64.wrap ((2:Int) - (1:Int))) (0:Int))) (0,0)).fst,SV.int IntKind.i64 (List.getD l_0 (Int.toNat (maxI (IntKind.i64.wrap ((2:Int) - (1:Int))) (0:Int))) (0,0)).snd,SV.int IntKind.i64 (List.getD l_0 (Int.toNat (minI (2:Int) (IntKind.i64.wrap ((l_0.length:Int) - (1:Int))))) (0,0)).fst,SV.int IntKind.i64 (List.getD l_0 (Int.toNat (minI (2:Int) (IntKind.i64.wrap ((l_0.length:Int) - (1:Int))))) (0,0)).snd]))))):=by kernel_rfl
def c_efind:PC P:=PC.of (α:=List (Int × Int) × Int × Unit) 78 [.agg (.sl tPart),.val tI] (fun x => x) (fun x => x) (fun _ => rfl)
  (fun x => some (x.1 = k3 ∧ x.2.1 = 75000))
  (fun x => .agg [.int .i64 50000,.int .i64 50000,.int .i64 100000,.int .i64 90000]) (by kernel_rfl) (by
    rintro ⟨l_0,y,⟨⟩⟩ hp
    refine fn_of hm (by kernel_rfl) (by kernel_rfl) (T_efind l_0 y) trivial ?_
    try dsimp only at hp
    try dsimp only
    obtain ⟨rfl,rfl⟩ : l_0 = k3 ∧ y = 75000:=hp
    refine collapse_holds ?_
    repeat refine ⟨by decide +kernel,?_⟩
    rfl)
theorem T_evalue (l_0:List (Int × Int)) (y:Int):fnTree (P:=P) [c_efind.gc,c_epart.gc] (lpOf []) Tryz.f42 (encL 0 [.agg (.sl tPart),.val tI] (l_0,y,())) =
  Tree.need (l_0 = k3 ∧ y = (75000:Int)) (.need ((((50000:Int),(50000:Int)),(100000:Int),(90000:Int)) = (((50000:Int),(50000:Int)),(100000:Int),(90000:Int)) ∧ y = (75000:Int)) (.leaf (SV.agg [SV.int IntKind.i64 (70000:Int),SV.int IntKind.i64 (IntKind.i64.wrap ((70000:Int) + minI (0:Int) (1:Int)))]))):=by kernel_rfl
def c_evalue:PC P:=PC.of (α:=List (Int × Int) × Int × Unit) 42 [.agg (.sl tPart),.val tI] (fun x => x) (fun x => x) (fun _ => rfl)
  (fun x => some (x.1 = k3 ∧ x.2.1 = 75000))
  (fun x => .agg [.int .i64 70000,.int .i64 70000]) (by kernel_rfl) (by
    rintro ⟨l_0,y,⟨⟩⟩ hp
    refine fn_of hm (by kernel_rfl) (by kernel_rfl) (T_evalue l_0 y) trivial ?_
    try dsimp only at hp
    try dsimp only
    obtain ⟨rfl,rfl⟩ : l_0 = k3 ∧ y = 75000:=hp
    refine collapse_holds ?_
    exact ⟨⟨rfl,rfl⟩,⟨rfl,rfl⟩,rfl⟩)
def L_ixLn0:Lay:={ slots:=[(0,.val (.sl (.sl tK))),(1,.fn 76)] }
def L_ixLnL:Lay:={ slots:=[(0,.val (.sl (.sl tK))),(1,.fn 76),(7,.val tI),(8,.val tI)] }
def L_ixLnL_0:Lay:={ slots:=[] }
def L_ixLnL_1:Lay:={ slots:=[(4,.val tI)] }
def X_ixLnL:Exit → St → Option Lay
  | .exit 0,_ => some L_ixLnL_0
  | .ret,_ => some L_ixLnL_1
  | _,_ => none
abbrev C_ixLnL:Code:=loopC (bodyOf Tryz.f96) 0
theorem B_ixLnL (l:List (List K2)) (n i:Int):loopBodyA (P:=P) [c_eright1.gc] (lpOf []) [] 19 (usd noU (L_ixLn0.ids ++ rowIds rowBase L_ixLn0.shs)) (inner C_ixLnL) L_ixLnL X_ixLnL (α:=List (List K2) × Unit × Int × Int × Unit) (fun x => x) (fun x => x) (l,(),n,i,()) =
  Tree.cond (decide (i < n)) (.need ((0:Int) ≤ i ∧ i < (l.length:Int)) (.need (List.length (List.getD l (Int.toNat i) []) ≤ (1000:Nat)) (.cond (badLn (List.getD l (Int.toNat i) [])) (.leaf (Sum.inr (Exit.ret,Lay.st L_ixLnL_1 (usd noU (Lay.ids L_ixLn0 ++ rowIds rowBase (Lay.shs L_ixLn0))) (i,())))) (.leaf (Sum.inl (l,(),n,IntKind.i64.wrap (i + (1:Int)),())))))) (.leaf (Sum.inr (Exit.exit (0:Nat),Lay.st L_ixLnL_0 (usd noU (Lay.ids L_ixLn0 ++ rowIds rowBase (Lay.shs L_ixLn0))) ()))):=by kernel_rfl
def inv_ixLnL:List (List K2) × Unit × Int × Int × Unit → Prop:=fun (l,_,n,i,_) => n = l.length ∧ 0 ≤ i ∧ i ≤ n ∧ (l.length:Int) < 2 ^ 62 ∧ ∀ x ∈ l,x.length ≤ 1000
def O_ixLnL:List (List K2) × Unit × Int × Int × Unit → Tree (Exit × St):=fun (l,_,n,i,_) => .cond ((l.drop i.toNat).any (badLn)) (.leaf (.ret,L_ixLnL_1.st (usd noU (L_ixLn0.ids ++ rowIds rowBase L_ixLn0.shs)) (ixR (badLn) l i,()))) (.leaf (.exit 0,L_ixLnL_0.st (usd noU (L_ixLn0.ids ++ rowIds rowBase L_ixLn0.shs)) ()))
def R_ixLnL:LRun:=runOf 19 L_ixLnL (fun x => x) (inv_ixLnL) (O_ixLnL)
theorem K_ixLnL:LoopOk P [] 19 none (usd noU (L_ixLn0.ids ++ rowIds rowBase L_ixLn0.shs)) C_ixLnL (R_ixLnL):=by
  refine loop_of hm (cx:=[c_eright1.gc]) [] (xl:=X_ixLnL) (α:=List (List K2) × Unit × Int × Int × Unit) (fun x => x) (fun (l,_,n,i,_) => (n - i).toNat) (fun _ => rfl) (by kernel_rfl) (by kernel_rfl) ?_ (by kernel_rfl) trivial ?_
  · intro e S L' h
    unfold X_ixLnL at h
    split at h <;> first | (cases h; done) | (cases h; kernel_rfl) | (rcases bif_some h with h | h <;> cases h <;> kernel_rfl)
  · rintro ⟨l,⟨⟩,n,i,⟨⟩⟩ hinv Q hQ
    refine hold_of_eq (B_ixLnL l n i) ?_
    obtain ⟨rfl,h0,h1,h2,h9⟩:=hinv
    rw [W_id (n:=i + 1) (by omega) (by omega)]
    unfold O_ixLnL at hQ
    dsimp only at hQ
    refine ⟨fun hi => ?_,fun hi => ?_⟩
    · simp only [decide_eq_true_eq] at hi
      have hm:((l.length:Int) - (i + 1)).toNat < ((l.length:Int) - i).toNat:=by omega
      obtain ⟨e1,e2,e3⟩:=ix_step (p:=badLn) ([] : (List K2)) h0 hi
      rw [e1] at hQ
      refine ⟨⟨h0,hi⟩,h9 _ (getD_mem (d:=([] : List K2)) (show i.toNat < l.length by omega)),fun hp => ?_,fun hp => ?_⟩
      · replace hp:(badLn) (l.getD i.toNat ([] : (List K2))) = true:=hp
        rw [hp,Bool.true_or,e2 hp] at hQ
        exact hQ.1 rfl
      · replace hp:(badLn) (l.getD i.toNat ([] : (List K2))) = false:=hp
        rw [hp,Bool.false_or,e3 hp] at hQ
        exact ⟨⟨⟨rfl,by omega,by omega,h2,h9⟩,hm⟩,hQ⟩
    · simp only [decide_eq_false_iff_not] at hi
      rw [drop_end hi] at hQ
      exact hQ.2 rfl
def L_ixLn:Lay:={ slots:=[(0,.val (.sl (.sl tK))),(1,.fn 76)] }
theorem T_ixLn (l:List (List K2)):mTree (P:=P) [] (lpOf [(0,R_ixLnL)]) Tryz.f96 L_ixLn true (l,(),()) =
  Tree.need (inv_ixLnL (l,(),(l.length:Int),(0:Int),())) (.cond (List.any (List.drop (Int.toNat (0:Int)) l) badLn) (.leaf { res:=SV.int IntKind.i64 (ixR badLn l (0:Int)),boxes:=[] }) (.leaf { res:=SV.int IntKind.i64 (-1:Int),boxes:=[] })):=by kernel_rfl
def c_ixLn:MC P:=MC.of (α:=List (List K2) × Unit × Unit) 96 L_ixLn (fun x => x) (fun x => x) (fun _ => rfl)
  (fun (l,_,_) => some ((l.length:Int) < 2 ^ 62 ∧ ∀ x ∈ l,x.length ≤ 1000))
  (fun (l,_,_) => ⟨.int .i64 (ixS (badLn) l),[],[]⟩) (by kernel_rfl) (by kernel_rfl) (by kernel_rfl) (by
    rintro ⟨l,⟨⟩,⟨⟩⟩ hp
    refine m_of hm (own:=true) (by kernel_rfl) (by kernel_rfl) (by kernel_rfl) (T_ixLn l) ⟨K_ixLnL,trivial⟩ ?_
    refine ⟨⟨rfl,by omega,by omega,hp.1,hp.2⟩,fun h => ?_,fun h => ?_⟩
    · simp only [Int.toNat_zero,List.drop_zero] at h
      have e:ixR (badLn) l 0 = ixS (badLn) l:=by
        unfold ixS ixR
        rw [if_pos h]
        simp only [Int.toNat_zero,List.drop_zero,Int.zero_add]
      exact congrArg (fun k:Int => (⟨.int .i64 k,[],[]⟩ : MOut)) e
    · simp only [Int.toNat_zero,List.drop_zero] at h
      have e : -1 = ixS (badLn) l:=by
        unfold ixS
        rw [if_neg (by simp only [h]; decide)]
      exact congrArg (fun k:Int => (⟨.int .i64 k,[],[]⟩ : MOut)) e)
def L_ixLnC:Lay:={ slots:=[(0,.val (.sl (.sl tK))),(1,.fn 76)] }
theorem T_ixLnC (l:List (List K2)):mTree (P:=P) [c_ixLn.gc] (lpOf []) Tryz.f75 L_ixLnC true (l,(),()) =
  Tree.need ((l.length:Int) < (2:Int) ^ (62:Nat) ∧ ∀ (x:List K2),x ∈ l → List.length x ≤ (1000:Nat)) (.leaf { res:=SV.bool (decide (ixS badLn l ≥ (0:Int))),boxes:=[] }):=by kernel_rfl
def c_ixLnC:MC P:=MC.of (α:=List (List K2) × Unit × Unit) 75 L_ixLnC (fun x => x) (fun x => x) (fun _ => rfl)
  (fun (l,_,_) => some ((l.length:Int) < 2 ^ 62 ∧ ∀ x ∈ l,x.length ≤ 1000))
  (fun (l,_,_) => ⟨.bool (l.any (badLn)),[],[]⟩) (by kernel_rfl) (by kernel_rfl) (by kernel_rfl) (by
    rintro ⟨l,⟨⟩,⟨⟩⟩ hp
    refine m_of hm (own:=true) (by kernel_rfl) (by kernel_rfl) (by kernel_rfl) (T_ixLnC l) trivial ?_
    exact ⟨hp,congrArg (fun k:Bool => (⟨.bool k,[],[]⟩ : MOut)) (ixS_ge (badLn) l)⟩)
theorem T_eright (l:List (List (Int × Int))):fnTree (P:=P) [c_ixLnC.gc] (lpOf []) Tryz.f41 (encL 0 [.val (.sl (.sl tPart))] (l,())) =
  Tree.need ((l.length:Int) < (2:Int) ^ (62:Nat) ∧ ∀ (x:List K2),x ∈ l → List.length x ≤ (1000:Nat)) (.leaf (SV.bool !List.any l badLn)):=by kernel_rfl
def c_eright:PC P:=PC.of (α:=List (List (Int × Int)) × Unit) 41 [.val (.sl (.sl tPart))] (fun x => x) (fun x => x) (fun _ => rfl)
  (fun x => some (x.1 = [k3]))
  (fun x => .bool true) (by kernel_rfl) (by
    rintro ⟨l,⟨⟩⟩ hp
    refine fn_of hm (by kernel_rfl) (by kernel_rfl) (T_eright l) trivial ?_
    try dsimp only at hp
    try dsimp only
    have h:l = [k3]:=hp
    subst h
    exact ⟨⟨by decide,by decide⟩,congrArg SV.bool (by decide +kernel:(!([k3] : List (List K2)).any badLn) = true)⟩)
theorem T_eAt (l_0:List (Int × Int)) (y:Int):fnTree (P:=P) [c_eright.gc,c_evalue.gc] (lpOf []) Tryz.f15 (encL 0 [.agg (.sl tPart),.val tI] (l_0,y,())) =
  Tree.need ([l_0] = [k3]) (.cond false (.leaf (SV.agg [SV.int IntKind.i64 (0:Int),SV.int IntKind.i64 (0:Int)])) (.need (l_0 = k3 ∧ y = (75000:Int)) (.leaf (SV.agg [SV.int IntKind.i64 (70000:Int),SV.int IntKind.i64 (70000:Int)])))):=by kernel_rfl
def c_eAt:PC P:=PC.of (α:=List (Int × Int) × Int × Unit) 15 [.agg (.sl tPart),.val tI] (fun x => x) (fun x => x) (fun _ => rfl)
  (fun x => some (x.1 = k3 ∧ x.2.1 = 75000))
  (fun x => .agg [.int .i64 70000,.int .i64 70000]) (by kernel_rfl) (by
    rintro ⟨l_0,y,⟨⟩⟩ hp
    refine fn_of hm (by kernel_rfl) (by kernel_rfl) (T_eAt l_0 y) trivial ?_
    try dsimp only at hp
    try dsimp only
    obtain ⟨rfl,rfl⟩ : l_0 = k3 ∧ y = 75000:=hp
    exact ⟨rfl,fun h => (by cases h),fun _ => ⟨⟨rfl,rfl⟩,rfl⟩⟩)
theorem T_tawake (_:Unit):fnTree (P:=P) [c_Length.gc,c_Vert.gc,c_eAt.gc] (lpOf []) Tryz.f4 (encL 0 [] ()) =
  Tree.cond true (.need (vertS (((0:Int),(0:Int),(0:Int)),[((0:Int),(0:Int),(50000:Int)),((0:Int),(30000:Int),(40000:Int))]) = k3 ∧ (75000:Int) = (75000:Int)) (.leaf (SV.bool true))) (.leaf (SV.bool false)):=by kernel_rfl
def c_tawake:PC P:=PC.of (α:=Unit) 4 [] (fun x => x) (fun x => x) (fun _ => rfl)
  (fun _ => none)
  (fun x => .bool true) (by kernel_rfl) (by
    rintro ⟨⟩ hp
    refine fn_of hm (by kernel_rfl) (by kernel_rfl) (T_tawake ()) trivial ?_
    try dsimp only at hp
    try dsimp only
    have e:vertS ((0,0,0),[(0,0,50000),(0,30000,40000)]) = k3:=by decide +kernel
    exact ⟨fun _ => ⟨⟨e,rfl⟩,rfl⟩,fun h => (by cases h)⟩)
end
end Go.MP
