/- Which paths are valid; their lengths and joints, and the places at depths. -/
import Derived.Test.YtdoobpeacbcohaaGreatMwB
namespace Go.MP
open Go Go.Sx Go.Proofs
set_option linter.unusedVariables false
set_option linter.unusedSimpArgs false
noncomputable section
theorem drop_getD {α:Type} (d:α):∀ {l:List α} {i:Nat},i < l.length → l.drop i = l.getD i d :: l.drop (i + 1):=by
  intro l i h
  rw [List.drop_eq_getElem_cons h]
  simp [List.getD,List.getElem?_eq_getElem h]
theorem drop_step {α:Type} (d:α) {l:List α} {i:Int} (h0:0 ≤ i) (h:i < l.length):l.drop i.toNat = l.getD i.toNat d :: l.drop (i + 1).toNat:=by
  rw [drop_getD d (show i.toNat < l.length by omega),show i.toNat + 1 = (i + 1).toNat by omega]
theorem drop_end {α:Type} {l:List α} {i:Int} (h:¬ i < l.length):l.drop i.toNat = []:=List.drop_eq_nil_of_le (by omega)
def clashS:Option V → V → Bool
  | some u,v => decide (vdot u v ≤ 0)
  | none,_ => false
def checkL:V → Option V → List V → Int
  | _,_,[] => 0
  | at',prev,v :: r => if (wholeS v).2 = false then 3 else if (wholeS v).1 < 100 ∨ (wholeS v).1 > 131072 then 2
    else if clashS prev v = true then 12
    else if validS (vadd at' v) = false then 2 else checkL (vadd at' v) (some v) r
theorem checkL_cons (a:V) (prev:Option V) (v:V) (r:List V):checkL a prev (v :: r) = if (wholeS v).2 = false then 3 else if (wholeS v).1 < 100 ∨ (wholeS v).1 > 131072 then 2
    else if clashS prev v = true then 12
    else if validS (vadd a v) = false then 2 else checkL (vadd a v) (some v) r:=rfl
def checkS (p:Pth):Int:=if p.2.length > 20 then 5 else if validS p.1 = false then 2 else checkL p.1 none p.2
def prevOf (l:List V) (i:Int):Option V:=if 0 < i then some (l.getD (i - 1).toNat (0,0,0)) else none
def L_Check:Lay:={ slots:=[(1,.ptr 2066 0),(2,.val tI),(3,.ptr 4066 0),(22,.val tVs),(23,.val tI),(24,.val tI)],boxes:=[(2066,[.val tI,.val tI,.val tI,.val tVs]),(4066,[.val tI,.val tI,.val tI])] }
def L_Check_0:Lay:={ slots:=[(2,.val tI)] }
def L_Check_1:Lay:={ slots:=[(2,.val tI)] }
def X_Check:Exit → St → Option Lay
  | .exit 1,_ => some L_Check_0
  | .ret,_ => some L_Check_1
  | _,_ => none
abbrev C_Check:Code:=loopC (bodyOf Tryz.f39) 1
theorem B_Check (e:Int) (l:List V) (n i:Int) (x y z:Int) (l' : List V) (a b c:Int):loopBodyA (P:=P) [c_whole.gc,c_dot.gc,c_plus.gc,c_valid.gc] (lpOf []) [] 66 noU (inner C_Check) L_Check X_Check (α:=Unit × Int × Unit × List V × Int × Int × Int × Int × Int × List V × Int × Int × Int × Unit) (fun x => x) (fun x => x) ((),e,(),l,n,i,x,y,z,l',a,b,c,()) =
  Tree.cond (decide (i < n)) (.need ((0:Int) ≤ i ∧ i < (l.length:Int)) (.cond (!(wholeS (List.getD l (Int.toNat i) (0,0,0))).snd) (.leaf (Sum.inr (Exit.ret,Lay.st L_Check_1 noU ((3:Int),())))) (.cond (decide ((wholeS (List.getD l (Int.toNat i) (0,0,0))).fst < (100:Int))) (.leaf (Sum.inr (Exit.ret,Lay.st L_Check_1 noU ((2:Int),())))) (.cond (decide ((wholeS (List.getD l (Int.toNat i) (0,0,0))).fst > (131072:Int))) (.leaf (Sum.inr (Exit.ret,Lay.st L_Check_1 noU ((2:Int),())))) (.cond (decide (i > (0:Int))) (.need ((0:Int) ≤ IntKind.i64.wrap (i - (1:Int)) ∧ IntKind.i64.wrap (i - (1:Int)) < (↑(List.length l'):Int)) (.cond (decide (vdot (List.getD l' (Int.toNat (IntKind.i64.wrap (i - (1:Int)))) (0,0,0)) (List.getD l (Int.toNat i) (0,0,0)) ≤ (0:Int))) (.leaf (Sum.inr (Exit.ret,Lay.st L_Check_1 noU ((12:Int),())))) (.cond (!validS (vadd (a,b,c) (List.getD l (Int.toNat i) (0,0,0)))) (.leaf (Sum.inr (Exit.ret,Lay.st L_Check_1 noU ((2:Int),())))) (.leaf (Sum.inl ((),e,(),l,n,IntKind.i64.wrap (i + (1:Int)),x,y,z,l',(vadd (a,b,c) (List.getD l (Int.toNat i) (0,0,0))).fst,(vadd (a,b,c) (List.getD l (Int.toNat i) (0,0,0))).snd.fst,(vadd (a,b,c) (List.getD l (Int.toNat i) (0,0,0))).snd.snd,())))))) (.cond (!validS (vadd (a,b,c) (List.getD l (Int.toNat i) (0,0,0)))) (.leaf (Sum.inr (Exit.ret,Lay.st L_Check_1 noU ((2:Int),())))) (.leaf (Sum.inl ((),e,(),l,n,IntKind.i64.wrap (i + (1:Int)),x,y,z,l',(vadd (a,b,c) (List.getD l (Int.toNat i) (0,0,0))).fst,(vadd (a,b,c) (List.getD l (Int.toNat i) (0,0,0))).snd.fst,(vadd (a,b,c) (List.getD l (Int.toNat i) (0,0,0))).snd.snd,()))))))))) (.leaf (Sum.inr (Exit.exit (1:Nat),Lay.st L_Check_0 noU (e,())))):=by kernel_rfl
def inv_Check:Unit × Int × Unit × List V × Int × Int × Int × Int × Int × List V × Int × Int × Int × Unit → Prop:=fun (_,e,_,l,n,i,_,_,_,l',_) => l' = l ∧ n = l.length ∧ 0 ≤ i ∧ i ≤ n ∧ l.length ≤ 20
def O_Check:Unit × Int × Unit × List V × Int × Int × Int × Int × Int × List V × Int × Int × Int × Unit → Tree (Exit × St):=fun (_,e,_,l,n,i,_,_,_,l',a,b,c,_) => .cond (decide (checkL (a,b,c) (prevOf l i) (l.drop i.toNat) = 0)) (.leaf (.exit 1,L_Check_0.st noU (e,()))) (.leaf (.ret,L_Check_1.st noU (checkL (a,b,c) (prevOf l i) (l.drop i.toNat),())))
def R_Check:LRun:=runOf 66 L_Check (fun x => x) (inv_Check) (O_Check)
theorem K_Check:LoopOk P [] 66 none noU C_Check (R_Check):=by
  refine loop_of hm (cx:=[c_whole.gc,c_dot.gc,c_plus.gc,c_valid.gc]) [] (xl:=X_Check) (α:=Unit × Int × Unit × List V × Int × Int × Int × Int × Int × List V × Int × Int × Int × Unit) (fun x => x) (fun (_,_,_,_,n,i,_) => (n - i).toNat) (fun _ => rfl) (by kernel_rfl) (by kernel_rfl) ?_ (by kernel_rfl) trivial ?_
  · intro e S L' h
    unfold X_Check at h
    split at h <;> first | (cases h; done) | (cases h; kernel_rfl) | (rcases bif_some h with h | h <;> cases h <;> kernel_rfl)
  · rintro ⟨⟨⟩,e,⟨⟩,l,n,i,x,y,z,l',a,b,c,⟨⟩⟩ hinv Q hQ
    refine hold_of_eq (B_Check e l n i x y z l' a b c) ?_
    obtain ⟨rfl,rfl,h0,h1,hlen⟩:=hinv
    rw [W_id (n:=i - 1) (by omega) (by omega),W_id (n:=i + 1) (by omega) (by omega)]
    unfold O_Check at hQ
    dsimp only at hQ
    refine ⟨fun hi => ?_,fun hi => ?_⟩
    · simp only [decide_eq_true_eq] at hi
      have hi' : i.toNat < l'.length:=by omega
      have hnext:prevOf l' (i + 1) = some (l'.getD i.toNat (0,0,0)):=by
        unfold prevOf
        rw [if_pos (by omega),show i + 1 - 1 = i by omega]
      rw [drop_getD (0,0,0) hi',checkL_cons,← hnext,show i.toNat + 1 = (i + 1).toNat by omega] at hQ
      generalize l'.getD i.toNat (0,0,0) = u at *
      have tail:∀ {C:Int},C = (if validS (vadd (a,b,c) u) = false then (2:Int) else checkL (vadd (a,b,c) u) (prevOf l' (i + 1)) (List.drop (i + 1).toNat l')) →
          (Tree.cond (decide (C = 0)) (.leaf (.exit 1,L_Check_0.st noU (e,()))) (.leaf (.ret,L_Check_1.st noU (C,())))).holds Q →
          (Tree.cond (!validS (vadd (a,b,c) u)) (Tree.leaf (Sum.inr (Exit.ret,Lay.st L_Check_1 noU ((2:Int),())))) (Tree.leaf (Sum.inl ((),e,(),l',(l'.length:Int),i + 1,x,y,z,l',(vadd (a,b,c) u).fst,(vadd (a,b,c) u).snd.fst,(vadd (a,b,c) u).snd.snd,())))).holds (roundB inv_Check (fun (_,_,_,_,n,i,_) => (n - i).toNat) O_Check Q ((),e,(),l',(l'.length:Int),i,x,y,z,l',a,b,c,())):=by
        intro C hC hQ
        refine ⟨fun hv => ?_,fun hv => ?_⟩
        · simp only [Bool.not_eq_true'] at hv
          rw [if_pos hv] at hC
          subst hC
          exact hQ.2 (by decide)
        · simp only [Bool.not_eq_false'] at hv
          rw [if_neg (by simp [hv])] at hC
          subst hC
          exact ⟨⟨⟨rfl,rfl,by omega,by omega,hlen⟩,by show ((l'.length:Int) - (i + 1)).toNat < ((l'.length:Int) - i).toNat; omega⟩,hQ⟩
      refine ⟨⟨h0,hi⟩,fun hw => ?_,fun hw => ⟨fun h2 => ?_,fun h2 => ⟨fun h3 => ?_,fun h3 => ⟨fun h4 => ⟨by simp at h4; omega,fun h5 => ?_,fun h5 => ?_⟩,fun h4 => ?_⟩⟩⟩⟩
      · simp only [Bool.not_eq_true'] at hw
        rw [if_pos hw] at hQ
        exact hQ.2 (by decide)
      · simp only [Bool.not_eq_false',decide_eq_true_eq] at hw h2
        rw [if_neg (by simp [hw]),if_pos (.inl h2)] at hQ
        exact hQ.2 (by decide)
      · simp only [Bool.not_eq_false',decide_eq_true_eq,decide_eq_false_iff_not] at hw h2 h3
        rw [if_neg (by simp [hw]),if_pos (.inr h3)] at hQ
        exact hQ.2 (by decide)
      · simp only [Bool.not_eq_false',decide_eq_true_eq,decide_eq_false_iff_not] at hw h2 h3 h4
        have e:prevOf l' i = some (l'.getD (i - 1).toNat (0,0,0)):=if_pos h4
        rw [if_neg (by simp [hw]),if_neg (by omega),if_pos (by rw [e]; exact h5)] at hQ
        exact hQ.2 (by decide)
      · simp only [Bool.not_eq_false',decide_eq_true_eq,decide_eq_false_iff_not] at hw h2 h3 h4
        have e:prevOf l' i = some (l'.getD (i - 1).toNat (0,0,0)):=if_pos h4
        rw [if_neg (by simp [hw]),if_neg (by omega),if_neg (by rw [e]; simp only [clashS,h5]; decide)] at hQ
        exact tail rfl hQ
      · simp only [Bool.not_eq_false',decide_eq_true_eq,decide_eq_false_iff_not] at hw h2 h3 h4
        have e:prevOf l' i = none:=if_neg h4
        rw [if_neg (by simp [hw]),if_neg (by omega),if_neg (by rw [e]; simp [clashS])] at hQ
        exact tail rfl hQ
    · simp only [decide_eq_false_iff_not] at hi
      have e:l'.drop i.toNat = []:=List.drop_eq_nil_of_le (by omega)
      rw [e] at hQ
      exact hQ.1 rfl
theorem T_Check (x y z:Int) (l:List V):fnTree (P:=P) [c_valid.gc] (lpOf [(1,R_Check)]) Tryz.f39 (encL 0 [.agg tPath] (((x,y,z),l),())) =
  Tree.cond (decide ((l.length:Int) > (20:Int))) (.leaf (SV.int IntKind.i64 (5:Int))) (.cond (!validS (x,y,z)) (.leaf (SV.int IntKind.i64 (2:Int))) (.need (inv_Check ((),(0:Int),(),l,(l.length:Int),(0:Int),x,y,z,l,x,y,z,())) (.cond (decide (checkL (x,y,z) (prevOf l (0:Int)) (List.drop (Int.toNat (0:Int)) l) = (0:Int))) (.leaf (SV.int IntKind.i64 (0:Int))) (.leaf (SV.int IntKind.i64 (checkL (x,y,z) (prevOf l (0:Int)) (List.drop (Int.toNat (0:Int)) l))))))):=by kernel_rfl
def c_Check:PC P:=PC.of (α:=Pth × Unit) 39 [.agg tPath] (fun x => x) (fun x => x) (fun _ => rfl)
  (fun _ => none)
  (fun x => .int .i64 (checkS x.1)) (by kernel_rfl) (by
    rintro ⟨⟨⟨x,y,z⟩,l⟩,⟨⟩⟩ hp
    refine fn_of hm (by kernel_rfl) (by kernel_rfl) (T_Check x y z l) ⟨K_Check,trivial⟩ ?_
    show Tree.holds (fun s => s = SV.int .i64 (checkS ((x,y,z),l))) _
    unfold checkS
    dsimp only
    refine ⟨fun h => ?_,fun h => ⟨fun h2 => ?_,fun h2 => ⟨?_,fun h3 => ?_,fun h3 => ?_⟩⟩⟩
    all_goals simp only [decide_eq_true_eq,decide_eq_false_iff_not,Bool.not_eq_true',Bool.not_eq_false'] at *
    · show SV.int _ _ = _
      rw [if_pos (by omega)]
    · show SV.int _ _ = _
      rw [if_neg (by omega),if_pos h2]
    · exact ⟨rfl,rfl,by omega,by omega,by omega⟩
    · show SV.int _ _ = _
      rw [if_neg (by omega),if_neg (by simp [h2])]
      exact congrArg _ h3.symm
    · show SV.int _ _ = _
      rw [if_neg (by omega),if_neg (by simp [h2])]
      rfl)
def L_parts:Lay:={ slots:=[(0,.agg tPath)] }
theorem T_parts (x y z:Int) (l:List V):mTree (P:=P) [] (lpOf []) Tryz.f40 L_parts true (((x,y,z),l),()) =
  Tree.leaf { res:=SV.fn (74:Nat) [SV.ptr (nat_lit 100) (0:Nat)],boxes:=[],news:=[Ob.box [SV.int IntKind.i64 x,SV.int IntKind.i64 y,SV.int IntKind.i64 z,SV.sl tV l]] }:=by kernel_rfl
def c_parts:MC P:=MC.of (α:=Pth × Unit) 40 L_parts (fun x => x) (fun x => x) (fun _ => rfl)
  (fun _ => none)
  (fun ((v,l),_) => ⟨.fn 74 [.ptr 100 0],[],[.box [.int .i64 v.1,.int .i64 v.2.1,.int .i64 v.2.2,.sl tV l]]⟩) (by kernel_rfl) (by kernel_rfl) (by kernel_rfl) (by
    rintro ⟨⟨⟨x,y,z⟩,l⟩,⟨⟩⟩ hp
    refine m_of hm (own:=true) (by kernel_rfl) (by kernel_rfl) (by kernel_rfl) (T_parts x y z l) trivial ?_
    exact rfl)
def sumL (s:Int) (l:List V):Int:=l.foldl (fun s v => IntKind.i64.wrap (s + (wholeS v).1)) s
def L_Length:Lay:={ slots:=[(3,.ptr 4016 0),(9,.clo 74 [(10016,0)])],boxes:=[(4016,[.val tI]),(10016,[.val tI,.val tI,.val tI,.val tVs])] }
def L_Length_0:Lay:={ slots:=[(3,.ptr 4016 0)],boxes:=[(4016,[.val tI])] }
def X_Length:Exit → St → Option Lay
  | .normal,_ => some L_Length_0
  | _,_ => none
abbrev C_Length:Code:=loopC (bodyOf Tryz.f14) 0
abbrev A_Length:Type:=Unit × Unit × Int × Int × Int × Int × List V × Unit
abbrev Y_Length (a:A_Length):List YH:=[⟨990,roundRun (P:=P) [] [] 16 990 (L_Length.st noU a).tmps (rgPs C_Length).toList (rgAssign C_Length) (rgBody C_Length)⟩]
abbrev U_Length (a:A_Length):Nat → Bool:=apU (L_Length.st noU a).used [990]
def L_Length_it:Lay:={ slots:=[(0,.yld 990),(1,.ptr 10016 0),(3,.ptr 4042 0),(10,.val tVs),(11,.val tI),(12,.val tI)],boxes:=[(4016,[.val tI]),(10016,[.val tI,.val tI,.val tI,.val tVs]),(4042,[.val tI,.val tI,.val tI,.val tI,.val tI,.val tI,.val tI,.val tI])],recs:=[(990,.ready)] }
def L_Length_it_0:Lay:={ slots:=[],boxes:=[(4016,[.val tI])],recs:=[(990,.ready)] }
def X_Length_it:Exit → St → Option Lay
  | .exit 0,_ => some L_Length_it_0
  | _,_ => none
abbrev C_Length_it:Code:=loopC (bodyOf Tryz.f74) 0
theorem B_Length_it (o:A_Length) (l:List V) (n i s x y z:Int) (l' : List V) (a b c d e f g h:Int):loopBodyA (P:=P) [c_whole.gc,c_plus.gc] (lpOf []) (Y_Length o) 42 (U_Length o) (inner C_Length_it) L_Length_it X_Length_it (α:=Unit × Unit × Unit × List V × Int × Int × Int × Int × Int × Int × List V × Int × Int × Int × Int × Int × Int × Int × Int × Unit) (fun x => x) (fun x => x) ((),(),(),l,n,i,s,x,y,z,l',a,b,c,d,e,f,g,h,()) =
  Tree.cond (decide (i < n)) (.need ((0:Int) ≤ i ∧ i < (l.length:Int)) (.leaf (Sum.inl ((),(),(),l,n,IntKind.i64.wrap (i + (1:Int)),IntKind.i64.wrap (s + (wholeS (List.getD l (Int.toNat i) (0,0,0))).fst),x,y,z,l',(vadd (a,b,c) (List.getD l (Int.toNat i) (0,0,0))).fst,(vadd (a,b,c) (List.getD l (Int.toNat i) (0,0,0))).snd.fst,(vadd (a,b,c) (List.getD l (Int.toNat i) (0,0,0))).snd.snd,IntKind.i64.wrap (d + (wholeS (List.getD l (Int.toNat i) (0,0,0))).fst),(List.getD l (Int.toNat i) (0,0,0)).fst,(List.getD l (Int.toNat i) (0,0,0)).snd.fst,(List.getD l (Int.toNat i) (0,0,0)).snd.snd,(wholeS (List.getD l (Int.toNat i) (0,0,0))).fst,())))) (.leaf (Sum.inr (Exit.exit (0:Nat),Lay.st L_Length_it_0 (U_Length o) (s,())))):=by kernel_rfl
def inv_Length_it (o:A_Length):Unit × Unit × Unit × List V × Int × Int × Int × Int × Int × Int × List V × Int × Int × Int × Int × Int × Int × Int × Int × Unit → Prop:=fun (_,_,_,l,n,i,s,_) => n = l.length ∧ 0 ≤ i ∧ i ≤ n ∧ l.length ≤ 20
def O_Length_it (o:A_Length):Unit × Unit × Unit × List V × Int × Int × Int × Int × Int × Int × List V × Int × Int × Int × Int × Int × Int × Int × Int × Unit → Tree (Exit × St):=fun (_,_,_,l,n,i,s,_) => .leaf (.exit 0,L_Length_it_0.st (U_Length o) (sumL s (l.drop i.toNat),()))
def R_Length_it (o:A_Length):LRun:=runOf 42 L_Length_it (fun x => x) (inv_Length_it o) (O_Length_it o)
theorem K_Length_it (o:A_Length):LoopOk P (Y_Length o) 42 none (U_Length o) C_Length_it (R_Length_it o):=by
  refine loop_of hm (cx:=[c_whole.gc,c_plus.gc]) [] (xl:=X_Length_it) (α:=Unit × Unit × Unit × List V × Int × Int × Int × Int × Int × Int × List V × Int × Int × Int × Int × Int × Int × Int × Int × Unit) (fun x => x) (fun (_,_,_,l,n,i,_) => (n - i).toNat) (fun _ => rfl) (by kernel_rfl) (by kernel_rfl) ?_ (by kernel_rfl) trivial ?_
  · intro e S L' h
    unfold X_Length_it at h
    split at h <;> first | (cases h; done) | (cases h; kernel_rfl) | (rcases bif_some h with h | h <;> cases h <;> kernel_rfl)
  · rintro ⟨⟨⟩,⟨⟩,⟨⟩,l,n,i,s,x,y,z,l',a,b,c,d,e,f,g,h,⟨⟩⟩ hinv Q hQ
    refine hold_of_eq (B_Length_it o l n i s x y z l' a b c d e f g h) ?_
    obtain ⟨rfl,h0,h1,h2⟩:=hinv
    rw [W_id (n:=i + 1) (by omega) (by omega)]
    unfold O_Length_it at hQ
    dsimp only at hQ
    refine ⟨fun hi => ?_,fun hi => ?_⟩
    · simp only [decide_eq_true_eq] at hi
      rw [drop_step (0,0,0) h0 hi] at hQ
      exact ⟨⟨h0,hi⟩,⟨⟨rfl,by omega,by omega,h2⟩,by show ((l.length:Int) - (i + 1)).toNat < ((l.length:Int) - i).toNat; omega⟩,hQ⟩
    · simp only [decide_eq_false_iff_not] at hi
      rw [drop_end hi] at hQ
      exact hQ
theorem G_Length (s x y z:Int) (l:List V):rangeTree (P:=P) [] (lpOf [(0,R_Length_it ((),(),s,x,y,z,l,()))]) [] 16 noU 990 (rgFn C_Length) (rgPs C_Length).toList (rgAssign C_Length) (rgBody C_Length) X_Length (L_Length.st noU ((),(),s,x,y,z,l,())) =
  Tree.need (inv_Length_it ((),(),s,x,y,z,l,()) ((),(),(),l,(l.length:Int),(0:Int),s,x,y,z,l,x,y,z,(0:Int),(0:Int),(0:Int),(0:Int),(0:Int),())) (.leaf (Exit.normal,Lay.st L_Length_0 noU ((),sumL s (List.drop (Int.toNat (0:Int)) l),()))):=by kernel_rfl
def inv_Length:Unit × Unit × Int × Int × Int × Int × List V × Unit → Prop:=fun (_,_,s,x,y,z,l,_) => l.length ≤ 20
def O_Length:Unit × Unit × Int × Int × Int × Int × List V × Unit → Tree (Exit × St):=fun (_,_,s,x,y,z,l,_) => .leaf (.normal,L_Length_0.st noU ((),sumL s l,()))
def R_Length:LRun:=runOf 16 L_Length (fun x => x) (inv_Length) (O_Length)
theorem H_Length (s x y z:Int) (l:List V) (hinv:inv_Length ((),(),s,x,y,z,l,())) (Q:Exit × St → Prop) (hQ:(O_Length ((),(),s,x,y,z,l,())).holds Q):Hold Q (rangeTree (P:=P) [] (lpOf [(0,R_Length_it ((),(),s,x,y,z,l,()))]) [] 16 noU 990 (rgFn C_Length) (rgPs C_Length).toList (rgAssign C_Length) (rgBody C_Length) X_Length (L_Length.st noU ((),(),s,x,y,z,l,()))):=by
    have e:=G_Length s x y z l
    generalize rangeTree (P:=P) [] (lpOf [(0,R_Length_it ((),(),s,x,y,z,l,()))]) [] 16 noU 990 (rgFn C_Length) (rgPs C_Length).toList (rgAssign C_Length) (rgBody C_Length) X_Length (L_Length.st noU ((),(),s,x,y,z,l,())) = t at e ⊢
    subst e
    constructor
    have h20:l.length ≤ 20:=hinv
    simp only [Int.toNat_zero,List.drop_zero]
    exact ⟨⟨rfl,by omega,by omega,h20⟩,hQ⟩
theorem J_Length (a:A_Length):AllK P (Y_Length a) 42 none (U_Length a) (bodyOf Tryz.f74) [(0,R_Length_it a)]:=⟨K_Length_it a,trivial⟩
theorem K_Length:LoopOk P [] 16 none noU C_Length (R_Length):=by
  refine range_of hm (cx:=[]) (xl:=X_Length) (α:=Unit × Unit × Int × Int × Int × Int × List V × Unit) (fun x => x) 990 (gf:=74) (fnI:=Tryz.f74) (fun a => [(0,R_Length_it a)]) (fun _ => rfl) (by kernel_rfl) (by kernel_rfl) ?_ (by kernel_rfl) (fun a => ⟨encK [(10016,0)],by kernel_rfl⟩) (by kernel_rfl) ?_ ?_
  · intro e S L' h
    unfold X_Length at h
    split at h <;> first | (cases h; done) | (cases h; kernel_rfl) | (rcases bif_some h with h | h <;> cases h <;> kernel_rfl)
  · intro a; exact J_Length a
  · have tup:∀ Pr:Unit × Unit × Int × Int × Int × Int × List V × Unit → Prop,(∀ (s x y z:Int) (l:List V),Pr ((),(),s,x,y,z,l,())) → ∀ a,Pr a:=fun Pr h a => h (a.2.2.1) (a.2.2.2.1) (a.2.2.2.2.1) (a.2.2.2.2.2.1) (a.2.2.2.2.2.2.1)
    refine tup _ ?_
    intro s x y z l hinv Q hQ
    exact H_Length s x y z l hinv Q hQ
def lenS (p:Pth):Int:=if checkS p = 0 then sumL 0 p.2 else 0
theorem checkS_len {p:Pth} (h:checkS p = 0):p.2.length ≤ 20:=by
  unfold checkS at h
  split at h
  · cases h
  · omega
theorem T_Length (x y z:Int) (l:List V):fnTree (P:=P) [c_Check.gc,c_parts.gc] (lpOf [(0,R_Length)]) Tryz.f14 (encL 0 [.agg tPath] (((x,y,z),l),())) =
  Tree.cond (checkS ((x,y,z),l) == (0:Int)) (.need (inv_Length ((),(),(0:Int),x,y,z,l,())) (.leaf (SV.int IntKind.i64 (sumL (0:Int) l)))) (.leaf (SV.int IntKind.i64 (0:Int))):=by kernel_rfl
def c_Length:PC P:=PC.of (α:=Pth × Unit) 14 [.agg tPath] (fun x => x) (fun x => x) (fun _ => rfl)
  (fun _ => none)
  (fun x => .int .i64 (lenS x.1)) (by kernel_rfl) (by
    rintro ⟨⟨⟨x,y,z⟩,l⟩,⟨⟩⟩ hp
    refine fn_of hm (by kernel_rfl) (by kernel_rfl) (T_Length x y z l) ⟨K_Length,trivial⟩ ?_
    show Tree.holds (fun s => s = SV.int .i64 (lenS ((x,y,z),l))) _
    unfold lenS
    refine ⟨fun h => ?_,fun h => ?_⟩
    · simp only [beq_iff_eq] at h
      rw [if_pos h]
      exact ⟨checkS_len h,rfl⟩
    · simp only [beq_eq_false_iff_ne] at h
      rw [if_neg h]
      exact rfl)
end
end Go.MP
