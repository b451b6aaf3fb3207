/- The reference's check of a path, its length, its joints. -/
import Derived.Test.YtoockflaeaknbaaGreatMwG
namespace Go.MP
open Go Go.Sx Go.Proofs
set_option linter.unusedVariables false
set_option linter.unusedSimpArgs false
noncomputable section
def L_rCheck:Lay:={ slots:=[(1,.ptr 2063 0),(3,.ptr 4063 0),(4,.val tI)],boxes:=[(2063,[.val tI,.val tI,.val tI,.val tVs]),(4063,[.val tI,.val tI,.val tI])] }
def L_rCheck_0:Lay:={ slots:=[] }
def L_rCheck_1:Lay:={ slots:=[(2,.val tI)] }
def X_rCheck:Exit → St → Option Lay
  | .exit 0,_ => some L_rCheck_0
  | .ret,_ => some L_rCheck_1
  | _,_ => none
abbrev C_rCheck:Code:=loopC (bodyOf Tryz.f32) 0
theorem B_rCheck (i:Int) (x y z:Int) (l:List V) (a b c:Int):loopBodyA (P:=P) [c_rwhole.gc,c_rlong.gc,c_rDot.gc,c_rPlus.gc,c_rplace.gc] (lpOf []) [] 63 noU (inner C_rCheck) L_rCheck X_rCheck (α:=Unit × Unit × Int × Int × Int × Int × List V × Int × Int × Int × Unit) (fun x => x) (fun x => x) ((),(),i,x,y,z,l,a,b,c,()) =
  Tree.cond (decide (i < (l.length:Int))) (.need ((0:Int) ≤ i ∧ i < (l.length:Int)) (.cond (!(wholeS (List.getD l (Int.toNat i) (0,0,0))).snd) (.leaf (Sum.inr (Exit.ret,Lay.st L_rCheck_1 noU ((3:Int),())))) (.cond (!(longS (List.getD l (Int.toNat i) (0,0,0))).snd) (.leaf (Sum.inr (Exit.ret,Lay.st L_rCheck_1 noU ((2:Int),())))) (.cond (decide ((longS (List.getD l (Int.toNat i) (0,0,0))).fst < (100:Int))) (.leaf (Sum.inr (Exit.ret,Lay.st L_rCheck_1 noU ((2:Int),())))) (.cond (decide (i > (0:Int))) (.need ((0:Int) ≤ IntKind.i64.wrap (i - (1:Int)) ∧ IntKind.i64.wrap (i - (1:Int)) < (l.length:Int)) (.cond (decide (vdot (List.getD l (Int.toNat (IntKind.i64.wrap (i - (1:Int)))) (0,0,0)) (List.getD l (Int.toNat i) (0,0,0)) ≤ (0:Int))) (.leaf (Sum.inr (Exit.ret,Lay.st L_rCheck_1 noU ((12:Int),())))) (.cond (!validS (vadd (a,b,c) (List.getD l (Int.toNat i) (0,0,0)))) (.leaf (Sum.inr (Exit.ret,Lay.st L_rCheck_1 noU ((2:Int),())))) (.leaf (Sum.inl ((),(),IntKind.i64.wrap (i + (1:Int)),x,y,z,l,(vadd (a,b,c) (List.getD l (Int.toNat i) (0,0,0))).fst,(vadd (a,b,c) (List.getD l (Int.toNat i) (0,0,0))).snd.fst,(vadd (a,b,c) (List.getD l (Int.toNat i) (0,0,0))).snd.snd,())))))) (.cond (!validS (vadd (a,b,c) (List.getD l (Int.toNat i) (0,0,0)))) (.leaf (Sum.inr (Exit.ret,Lay.st L_rCheck_1 noU ((2:Int),())))) (.leaf (Sum.inl ((),(),IntKind.i64.wrap (i + (1:Int)),x,y,z,l,(vadd (a,b,c) (List.getD l (Int.toNat i) (0,0,0))).fst,(vadd (a,b,c) (List.getD l (Int.toNat i) (0,0,0))).snd.fst,(vadd (a,b,c) (List.getD l (Int.toNat i) (0,0,0))).snd.snd,()))))))))) (.leaf (Sum.inr (Exit.exit (0:Nat),Lay.st L_rCheck_0 noU ()))):=by kernel_rfl
def inv_rCheck:Unit × Unit × Int × Int × Int × Int × List V × Int × Int × Int × Unit → Prop:=fun (_,_,i,_,_,_,l,_) => 0 ≤ i ∧ i ≤ l.length ∧ l.length ≤ 20
def O_rCheck:Unit × Unit × Int × Int × Int × Int × List V × Int × Int × Int × Unit → Tree (Exit × St):=fun (_,_,i,_,_,_,l,a,b,c,_) => .cond (decide (checkL (a,b,c) (prevOf l i) (l.drop i.toNat) = 0)) (.leaf (.exit 0,L_rCheck_0.st noU ())) (.leaf (.ret,L_rCheck_1.st noU (checkL (a,b,c) (prevOf l i) (l.drop i.toNat),())))
def R_rCheck:LRun:=runOf 63 L_rCheck (fun x => x) (inv_rCheck) (O_rCheck)
theorem K_rCheck:LoopOk P [] 63 none noU C_rCheck (R_rCheck):=by
  refine loop_of hm (cx:=[c_rwhole.gc,c_rlong.gc,c_rDot.gc,c_rPlus.gc,c_rplace.gc]) [] (xl:=X_rCheck) (α:=Unit × Unit × Int × Int × Int × Int × List V × Int × Int × Int × Unit) (fun x => x) (fun (_,_,i,_,_,_,l,_) => (l.length - i).toNat) (fun _ => rfl) (by kernel_rfl) (by kernel_rfl) ?_ (by kernel_rfl) trivial ?_
  · intro e S L' h
    unfold X_rCheck at h
    split at h <;> first | (cases h; done) | (cases h; kernel_rfl) | (rcases bif_some h with h | h <;> cases h <;> kernel_rfl)
  · rintro ⟨⟨⟩,⟨⟩,i,x,y,z,l,a,b,c,⟨⟩⟩ hinv Q hQ
    refine hold_of_eq (B_rCheck i x y z l a b c) ?_
    obtain ⟨h0,h1,hlen⟩:=hinv
    rw [W_id (n:=i - 1) (by omega) (by omega),W_id (n:=i + 1) (by omega) (by omega)]
    unfold O_rCheck at hQ
    dsimp only at hQ
    refine ⟨fun hi => ?_,fun hi => ?_⟩
    · simp only [decide_eq_true_eq] at hi
      have hi' : i.toNat < l.length:=by omega
      have hnext:prevOf l (i + 1) = some (l.getD i.toNat (0,0,0)):=by
        unfold prevOf
        rw [if_pos (by omega),show i + 1 - 1 = i by omega]
      rw [drop_step (0,0,0) h0 hi,checkL_cons,← hnext] at hQ
      generalize l.getD i.toNat (0,0,0) = u at *
      have tail:∀ {C:Int},C = (if validS (vadd (a,b,c) u) = false then (2:Int) else checkL (vadd (a,b,c) u) (prevOf l (i + 1)) (List.drop (i + 1).toNat l)) →
          (Tree.cond (decide (C = 0)) (.leaf (.exit 0,L_rCheck_0.st noU ())) (.leaf (.ret,L_rCheck_1.st noU (C,())))).holds Q →
          (Tree.cond (!validS (vadd (a,b,c) u)) (Tree.leaf (Sum.inr (Exit.ret,Lay.st L_rCheck_1 noU ((2:Int),())))) (Tree.leaf (Sum.inl ((),(),i + 1,x,y,z,l,(vadd (a,b,c) u).fst,(vadd (a,b,c) u).snd.fst,(vadd (a,b,c) u).snd.snd,())))).holds (roundB inv_rCheck (fun (_,_,i,_,_,_,l,_) => (l.length - i).toNat) O_rCheck Q ((),(),i,x,y,z,l,a,b,c,())):=by
        intro C hC hQ
        refine ⟨fun hv => ?_,fun hv => ?_⟩
        · simp only [Bool.not_eq_true'] at hv
          rw [if_pos hv] at hC
          subst hC
          exact hQ.2 (by decide)
        · simp only [Bool.not_eq_false'] at hv
          rw [if_neg (by simp [hv])] at hC
          subst hC
          exact ⟨⟨⟨by omega,by omega,hlen⟩,by show ((l.length:Int) - (i + 1)).toNat < ((l.length:Int) - i).toNat; omega⟩,hQ⟩
      refine ⟨⟨h0,hi⟩,fun hw => ?_,fun hw => ?_⟩
      · simp only [Bool.not_eq_true'] at hw
        rw [if_pos hw] at hQ
        exact hQ.2 (by decide)
      simp only [Bool.not_eq_false'] at hw
      obtain ⟨g1,g2⟩:=long_ok hw
      rw [if_neg (by simp [hw])] at hQ
      refine ⟨fun h2 => ?_,fun h2 => ?_⟩
      · simp only [Bool.not_eq_true',g1,decide_eq_false_iff_not] at h2
        rw [if_pos (by omega)] at hQ
        exact hQ.2 (by decide)
      simp only [Bool.not_eq_false'] at h2
      have h2':=h2
      rw [g1] at h2'
      simp only [decide_eq_true_eq] at h2'
      rw [g2 h2]
      refine ⟨fun h3 => ?_,fun h3 => ⟨fun h4 => ⟨by simp at h4; omega,fun h5 => ?_,fun h5 => ?_⟩,fun h4 => ?_⟩⟩
      · simp only [decide_eq_true_eq] at h3
        rw [if_pos (.inl h3)] at hQ
        exact hQ.2 (by decide)
      · simp only [decide_eq_true_eq,decide_eq_false_iff_not] at h3 h4
        have e:prevOf l i = some (l.getD (i - 1).toNat (0,0,0)):=if_pos h4
        rw [if_neg (by omega),if_pos (by rw [e]; exact h5)] at hQ
        exact hQ.2 (by decide)
      · simp only [decide_eq_true_eq,decide_eq_false_iff_not] at h3 h4
        have e:prevOf l i = some (l.getD (i - 1).toNat (0,0,0)):=if_pos h4
        rw [if_neg (by omega),if_neg (by rw [e]; simp only [clashS,h5]; decide)] at hQ
        exact tail rfl hQ
      · simp only [decide_eq_true_eq,decide_eq_false_iff_not] at h3 h4
        have e:prevOf l i = none:=if_neg h4
        rw [if_neg (by omega),if_neg (by rw [e]; simp [clashS])] at hQ
        exact tail rfl hQ
    · simp only [decide_eq_false_iff_not] at hi
      rw [drop_end hi] at hQ
      exact hQ.1 rfl
theorem T_rCheck (x y z:Int) (l:List V):fnTree (P:=P) [c_rplace.gc] (lpOf [(0,R_rCheck)]) Tryz.f32 (encL 0 [.agg tPath] (((x,y,z),l),())) =
  Tree.cond (decide ((l.length:Int) > (20:Int))) (.leaf (SV.int IntKind.i64 (5:Int))) (.cond (!validS (x,y,z)) (.leaf (SV.int IntKind.i64 (2:Int))) (.need (inv_rCheck ((),(),(0:Int),x,y,z,l,x,y,z,())) (.cond (decide (checkL (x,y,z) (prevOf l (0:Int)) (List.drop (Int.toNat (0:Int)) l) = (0:Int))) (.leaf (SV.int IntKind.i64 (0:Int))) (.leaf (SV.int IntKind.i64 (checkL (x,y,z) (prevOf l (0:Int)) (List.drop (Int.toNat (0:Int)) l))))))):=by kernel_rfl
def c_rCheck:PC P:=PC.of (α:=Pth × Unit) 32 [.agg tPath] (fun x => x) (fun x => x) (fun _ => rfl)
  (fun _ => none)
  (fun x => .int .i64 (checkS x.1)) (by kernel_rfl) (by
    rintro ⟨⟨⟨x,y,z⟩,l⟩,⟨⟩⟩ hp
    refine fn_of hm (by kernel_rfl) (by kernel_rfl) (T_rCheck x y z l) ⟨K_rCheck,trivial⟩ ?_
    show Tree.holds (fun s => s = SV.int .i64 (checkS ((x,y,z),l))) _
    unfold checkS
    dsimp only
    refine ⟨fun h => ?_,fun h => ⟨fun h2 => ?_,fun h2 => ⟨?_,fun h3 => ?_,fun h3 => ?_⟩⟩⟩
    all_goals simp only [decide_eq_true_eq,decide_eq_false_iff_not,Bool.not_eq_true',Bool.not_eq_false'] at *
    · show SV.int _ _ = _
      rw [if_pos (by omega)]
    · show SV.int _ _ = _
      rw [if_neg (by omega),if_pos h2]
    · exact ⟨by omega,by omega,by omega⟩
    · show SV.int _ _ = _
      rw [if_neg (by omega),if_neg (by simp [h2])]
      exact congrArg _ h3.symm
    · show SV.int _ _ = _
      rw [if_neg (by omega),if_neg (by simp [h2])]
      rfl)
def L_rLength:Lay:={ slots:=[(1,.ptr 2030 0),(3,.val tI),(4,.val tI)],boxes:=[(2030,[.val tI,.val tI,.val tI,.val tVs])] }
def L_rLength_0:Lay:={ slots:=[(3,.val tI)] }
def X_rLength:Exit → St → Option Lay
  | .exit 0,_ => some L_rLength_0
  | _,_ => none
abbrev C_rLength:Code:=loopC (bodyOf Tryz.f33) 0
theorem B_rLength (s i x y z:Int) (l:List V):loopBodyA (P:=P) [c_rlong.gc] (lpOf []) [] 30 noU (inner C_rLength) L_rLength X_rLength (α:=Unit × Int × Int × Int × Int × Int × List V × Unit) (fun x => x) (fun x => x) ((),s,i,x,y,z,l,()) =
  Tree.cond (decide (i < (l.length:Int))) (.need ((0:Int) ≤ i ∧ i < (l.length:Int)) (.leaf (Sum.inl ((),IntKind.i64.wrap (s + (longS (List.getD l (Int.toNat i) (0,0,0))).fst),IntKind.i64.wrap (i + (1:Int)),x,y,z,l,())))) (.leaf (Sum.inr (Exit.exit (0:Nat),Lay.st L_rLength_0 noU (s,())))):=by kernel_rfl
def inv_rLength:Unit × Int × Int × Int × Int × Int × List V × Unit → Prop:=fun (_,s,i,_,_,_,l,_) => 0 ≤ i ∧ i ≤ l.length ∧ l.length ≤ 20 ∧ ∀ v ∈ l,legOk v
def O_rLength:Unit × Int × Int × Int × Int × Int × List V × Unit → Tree (Exit × St):=fun (_,s,i,_,_,_,l,_) => .leaf (.exit 0,L_rLength_0.st noU (sumL s (l.drop i.toNat),()))
def R_rLength:LRun:=runOf 30 L_rLength (fun x => x) (inv_rLength) (O_rLength)
theorem K_rLength:LoopOk P [] 30 none noU C_rLength (R_rLength):=by
  refine loop_of hm (cx:=[c_rlong.gc]) [] (xl:=X_rLength) (α:=Unit × Int × Int × Int × Int × Int × List V × Unit) (fun x => x) (fun (_,_,i,_,_,_,l,_) => (l.length - i).toNat) (fun _ => rfl) (by kernel_rfl) (by kernel_rfl) ?_ (by kernel_rfl) trivial ?_
  · intro e S L' h
    unfold X_rLength at h
    split at h <;> first | (cases h; done) | (cases h; kernel_rfl) | (rcases bif_some h with h | h <;> cases h <;> kernel_rfl)
  · rintro ⟨⟨⟩,s,i,x,y,z,l,⟨⟩⟩ hinv Q hQ
    refine hold_of_eq (B_rLength s i x y z l) ?_
    obtain ⟨h0,h1,h2,h3⟩:=hinv
    rw [W_id (n:=i + 1) (by omega) (by omega)]
    unfold O_rLength at hQ
    dsimp only at hQ
    refine ⟨fun hi => ?_,fun hi => ?_⟩
    · simp only [decide_eq_true_eq] at hi
      have hu:legOk (l.getD i.toNat (0,0,0)):=by
        refine h3 _ ?_
        have hlt:i.toNat < l.length:=by omega
        simp [List.getD,List.getElem?_eq_getElem hlt]
      rw [drop_step (0,0,0) h0 hi] at hQ
      rw [long_leg hu]
      exact ⟨⟨h0,hi⟩,⟨⟨by omega,by omega,h2,h3⟩,by show ((l.length:Int) - (i + 1)).toNat < ((l.length:Int) - i).toNat; omega⟩,hQ⟩
    · simp only [decide_eq_false_iff_not] at hi
      rw [drop_end hi] at hQ
      exact hQ
theorem T_rLength (x y z:Int) (l:List V):fnTree (P:=P) [c_rCheck.gc] (lpOf [(0,R_rLength)]) Tryz.f33 (encL 0 [.agg tPath] (((x,y,z),l),())) =
  Tree.cond (checkS ((x,y,z),l) != (0:Int)) (.leaf (SV.int IntKind.i64 (0:Int))) (.need (inv_rLength ((),(0:Int),(0:Int),x,y,z,l,())) (.leaf (SV.int IntKind.i64 (sumL (0:Int) (List.drop (Int.toNat (0:Int)) l))))):=by kernel_rfl
def c_rLength:PC P:=PC.of (α:=Pth × Unit) 33 [.agg tPath] (fun x => x) (fun x => x) (fun _ => rfl)
  (fun _ => none)
  (fun x => .int .i64 (lenS x.1)) (by kernel_rfl) (by
    rintro ⟨⟨⟨x,y,z⟩,l⟩,⟨⟩⟩ hp
    refine fn_of hm (by kernel_rfl) (by kernel_rfl) (T_rLength x y z l) ⟨K_rLength,trivial⟩ ?_
    show Tree.holds (fun s => s = SV.int .i64 (lenS ((x,y,z),l))) _
    unfold lenS
    refine ⟨fun h => ?_,fun h => ?_⟩
    · simp only [bne_iff_ne,ne_eq] at h
      rw [if_neg h]
      exact rfl
    · simp only [bne_eq_false_iff_eq] at h
      rw [if_pos h]
      exact ⟨⟨by omega,by omega,checkS_len h,checkS_legs h⟩,rfl⟩)
def jl:V → List V → List V
  | a,[] => [a]
  | a,v :: r => a :: jl (vadd a v) r
theorem jl_length:∀ (l:List V) (a:V),(jl a l).length = l.length + 1
  | [],_ => rfl
  | v :: r,a => by simp [jl,jl_length r]
theorem jl_next:∀ (l:List V) (a:V) (i:Nat),i < l.length → (jl a l).getD (i + 1) (0,0,0) = vadd ((jl a l).getD i (0,0,0)) (l.getD i (0,0,0))
  | [],_,i,h => by cases h
  | [v],a,0,h => rfl
  | v :: u :: r,a,0,h => rfl
  | v :: r,a,i + 1,h => by
    have h' : i < r.length:=by simpa using h
    have:=jl_next r (vadd a v) i h'
    simpa [jl] using this
theorem take_snoc {α:Type} (d:α):∀ {l:List α} {k:Nat},k < l.length → l.take (k + 1) = l.take k ++ [l.getD k d]
  | a :: l,0,h => by simp
  | a :: l,k + 1,h => by
    have:=take_snoc d (l:=l) (k:=k) (by simpa using h)
    simp only [List.take_succ_cons,List.cons_append]
    rw [this]
    simp
theorem getD_take {α:Type} (d:α):∀ {l:List α} {k i:Nat},i < k → (l.take k).getD i d = l.getD i d
  | [],k,i,h => by simp
  | a :: l,0,i,h => by omega
  | a :: l,k + 1,0,h => by simp
  | a :: l,k + 1,i + 1,h => by
    have:=getD_take d (l:=l) (k:=k) (i:=i) (by omega)
    simpa using this
def L_rjoints:Lay:={ slots:=[(1,.ptr 2029 0),(3,.row 26 tV),(4,.val tI)],boxes:=[(2029,[.val tI,.val tI,.val tI,.val tVs])] }
def L_rjoints_0:Lay:={ slots:=[(3,.row 26 tV)] }
def X_rjoints:Exit → St → Option Lay
  | .exit 0,_ => some L_rjoints_0
  | _,_ => none
abbrev C_rjoints:Code:=loopC (bodyOf Tryz.f120) 0
theorem B_rjoints (o:List V) (i x y z:Int) (l:List V):loopBodyA (P:=P) [c_rPlus.gc] (lpOf []) [] 29 noU (inner C_rjoints) L_rjoints X_rjoints (α:=Unit × List V × Int × Int × Int × Int × List V × Unit) (fun x => x) (fun x => x) ((),o,i,x,y,z,l,()) =
  Tree.cond (decide (i < (l.length:Int))) (.need ((0:Int) ≤ i ∧ i < (o.length:Int)) (.need (Int.toNat i < List.length o) (.need ((0:Int) ≤ i ∧ i < (l.length:Int)) (.need ((List.length o + List.length [vadd (List.getD o (Int.toNat i) (0,0,0)) (List.getD l (Int.toNat i) (0,0,0))]) * (24:Nat) ≤ (140737488355328:Nat)) (.leaf (Sum.inl ((),o ++ [vadd (List.getD o (Int.toNat i) (0,0,0)) (List.getD l (Int.toNat i) (0,0,0))],IntKind.i64.wrap (i + (1:Int)),x,y,z,l,()))))))) (.leaf (Sum.inr (Exit.exit (0:Nat),Lay.st L_rjoints_0 noU (o,())))):=by kernel_rfl
def inv_rjoints:Unit × List V × Int × Int × Int × Int × List V × Unit → Prop:=fun (_,o,i,x,y,z,l,_) => 0 ≤ i ∧ i ≤ l.length ∧ l.length ≤ 20 ∧ o = (jl (x,y,z) l).take (i.toNat + 1)
def O_rjoints:Unit × List V × Int × Int × Int × Int × List V × Unit → Tree (Exit × St):=fun (_,o,i,x,y,z,l,_) => .leaf (.exit 0,L_rjoints_0.st noU (jl (x,y,z) l,()))
def R_rjoints:LRun:=runOf 29 L_rjoints (fun x => x) (inv_rjoints) (O_rjoints)
theorem K_rjoints:LoopOk P [] 29 none noU C_rjoints (R_rjoints):=by
  refine loop_of hm (cx:=[c_rPlus.gc]) [] (xl:=X_rjoints) (α:=Unit × List V × Int × Int × Int × Int × List V × Unit) (fun x => x) (fun (_,_,i,_,_,_,l,_) => (l.length - i).toNat) (fun _ => rfl) (by kernel_rfl) (by kernel_rfl) ?_ (by kernel_rfl) trivial ?_
  · intro e S L' h
    unfold X_rjoints at h
    split at h <;> first | (cases h; done) | (cases h; kernel_rfl) | (rcases bif_some h with h | h <;> cases h <;> kernel_rfl)
  · rintro ⟨⟨⟩,o,i,x,y,z,l,⟨⟩⟩ hinv Q hQ
    refine hold_of_eq (B_rjoints o i x y z l) ?_
    obtain ⟨h0,h1,h2,ho⟩:=hinv
    rw [W_id (n:=i + 1) (by omega) (by omega)]
    have hjl:=jl_length l (x,y,z)
    have hlen:o.length = i.toNat + 1:=by rw [ho,List.length_take,hjl]; omega
    refine ⟨fun hi => ?_,fun hi => ?_⟩
    · simp only [decide_eq_true_eq] at hi
      refine ⟨⟨h0,by omega⟩,by omega,⟨h0,hi⟩,by simp only [List.length_cons,List.length_nil]; omega,⟨⟨by omega,by omega,h2,?_⟩,by show ((l.length:Int) - (i + 1)).toNat < ((l.length:Int) - i).toNat; omega⟩,hQ⟩
      rw [show (i + 1).toNat = i.toNat + 1 by omega,take_snoc (0,0,0) (by omega),jl_next l (x,y,z) i.toNat (by omega),ho,getD_take _ (by omega)]
    · simp only [decide_eq_false_iff_not] at hi
      have e:o = jl (x,y,z) l:=by rw [ho,List.take_of_length_le (by omega)]
      rw [e]; exact hQ
theorem T_rjoints (x y z:Int) (l:List V):fnTree (P:=P) [] (lpOf [(0,R_rjoints)]) Tryz.f120 (encL 0 [.agg tPath] (((x,y,z),l),())) =
  Tree.need (inv_rjoints ((),[(x,y,z)],(0:Int),x,y,z,l,())) (.leaf (SV.sl (Ty.pair tI (Ty.pair tI tI)) (jl (x,y,z) l))):=by kernel_rfl
def c_rjoints:PC P:=PC.of (α:=Pth × Unit) 120 [.agg tPath] (fun x => x) (fun x => x) (fun _ => rfl)
  (fun x => some (x.1.2.length ≤ 20))
  (fun x => .sl tV (jl x.1.1 x.1.2)) (by kernel_rfl) (by
    rintro ⟨⟨⟨x,y,z⟩,l⟩,⟨⟩⟩ hp
    refine fn_of hm (by kernel_rfl) (by kernel_rfl) (T_rjoints x y z l) ⟨K_rjoints,trivial⟩ ?_
    refine ⟨⟨by omega,by omega,hp,?_⟩,rfl⟩
    show [(x,y,z)] = (jl (x,y,z) l).take 1
    cases l <;> rfl)
def jointsS (p:Pth):List V:=if checkS p = 0 then jl p.1 p.2 else []
theorem T_rJoints (x y z:Int) (l:List V):fnTree (P:=P) [c_rCheck.gc,c_rjoints.gc] (lpOf []) Tryz.f100 (encL 0 [.agg tPath] (((x,y,z),l),())) =
  Tree.cond (checkS ((x,y,z),l) != (0:Int)) (.leaf SV.nils) (.need (List.length l ≤ (20:Nat)) (.leaf (SV.sl (Ty.pair tI (Ty.pair tI tI)) (jl (x,y,z) l)))):=by kernel_rfl
def c_rJoints:PC P:=PC.of (α:=Pth × Unit) 100 [.agg tPath] (fun x => x) (fun x => x) (fun _ => rfl)
  (fun _ => none)
  (fun x => .sl tV (jointsS x.1)) (by kernel_rfl) (by
    rintro ⟨⟨⟨x,y,z⟩,l⟩,⟨⟩⟩ hp
    refine fn_le hm (by kernel_rfl) (by kernel_rfl) (T_rJoints x y z l) trivial (by kernel_rfl) ?_
    show Tree.holds (fun s => LeS s (SV.sl tV (jointsS ((x,y,z),l)))) _
    unfold jointsS
    refine ⟨fun h => ?_,fun h => ⟨?_,?_⟩⟩
    · simp only [bne_iff_ne,ne_eq] at h
      rw [if_neg h]
      exact rfl
    · simp only [bne_eq_false_iff_eq] at h
      exact checkS_len h
    · simp only [bne_eq_false_iff_eq] at h
      rw [if_pos h]
      exact rfl)
end
end Go.MP
