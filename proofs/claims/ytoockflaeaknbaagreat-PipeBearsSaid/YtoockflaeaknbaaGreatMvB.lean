/- Strings: the program's and the reference's checks, lengths, weights, joints. -/
import Derived.Test.YtoockflaeaknbaaGreatMvA
namespace Go.MP
open Go Go.Sx Go.Proofs
set_option linter.unusedVariables false
set_option linter.unusedSimpArgs false
noncomputable section
theorem sumT_step {l:List Tb} {i:Int} (h0:0 ≤ i) (h:i < l.length):sumT (l.drop i.toNat) = (l.getD i.toNat zT).1 * (l.getD i.toNat zT).2.1 + sumT (l.drop (i + 1).toNat):=by
  rw [drop_step zT h0 h]; rfl
theorem sumT_nil:sumT [] = 0:=rfl
def L_plengthL:Lay:={ slots:=[(3,.val tI),(7,.val tTs),(8,.val tI),(9,.val tI)] }
def L_plengthL_0:Lay:={ slots:=[(3,.val tI)] }
def X_plengthL:Exit → St → Option Lay
  | .exit 0,_ => some L_plengthL_0
  | _,_ => none
abbrev C_plengthL:Code:=loopC (bodyOf Tryz.f59) 0
theorem B_plengthL (s:Int) (l:List Tb) (n i:Int):loopBodyA (P:=P) [] (lpOf []) [] 22 noU (inner C_plengthL) L_plengthL X_plengthL (α:=Int × List Tb × Int × Int × Unit) (fun x => x) (fun x => x) (s,l,n,i,()) =
  Tree.cond (decide (i < n)) (.need ((0:Int) ≤ i ∧ i < (l.length:Int)) (.leaf (Sum.inl (IntKind.i64.wrap (s + IntKind.i64.wrap ((List.getD l (Int.toNat i) (0,0,0,0,0,0,0,0,0)).fst * (List.getD l (Int.toNat i) (0,0,0,0,0,0,0,0,0)).snd.fst)),l,n,IntKind.i64.wrap (i + (1:Int)),())))) (.leaf (Sum.inr (Exit.exit (0:Nat),Lay.st L_plengthL_0 noU (s,())))):=by kernel_rfl
def inv_plengthL:Int × List Tb × Int × Int × Unit → Prop:=fun (s,l,n,i,()) => n = l.length ∧ 0 ≤ i ∧ i ≤ n ∧ l.length ≤ 8 ∧ AllF l ∧ 0 ≤ s ∧ s ≤ 1600000 * i
def O_plengthL:Int × List Tb × Int × Int × Unit → Tree (Exit × St):=fun (s,l,n,i,()) => (.leaf (.exit 0,L_plengthL_0.st noU ((s + sumT (l.drop i.toNat)),())))
def R_plengthL:LRun:=runOf 22 L_plengthL (fun x => x) (inv_plengthL) (O_plengthL)
theorem K_plengthL:LoopOk P [] 22 none noU C_plengthL (R_plengthL):=by
  refine loop_of hm (cx:=[]) [] (xl:=X_plengthL) (α:=Int × List Tb × Int × Int × Unit) (fun x => x) (fun (s,l,n,i,()) => (n - i).toNat) (fun _ => rfl) (by kernel_rfl) (by kernel_rfl) ?_ (by kernel_rfl) trivial ?_
  · intro e S L' h
    unfold X_plengthL at h
    split at h <;> first | (cases h; done) | (cases h; kernel_rfl) | (rcases bif_some h with h | h <;> cases h <;> kernel_rfl)
  · rintro ⟨s,l,n,i,⟨⟩⟩ hinv Q hQ
    refine hold_of_eq (B_plengthL s l n i) ?_
    obtain ⟨rfl,h0,h1,h2,h3,h4,h5⟩:=hinv
    rw [W_id (n:=i + 1) (by omega) (by omega)]
    have hQ' : Q (.exit 0,L_plengthL_0.st noU (s + sumT (l.drop i.toNat),())):=hQ
    refine ⟨fun c1 => ?_,fun c1 => ?_⟩
    · have c1:=of_decide_eq_true c1
      have hf:=(h3 _ (mem_getD (d:=zT) h0 c1)).prod
      rw [sumT_step h0 c1] at hQ'
      generalize l.getD i.toNat zT = u at *
      have hm:((l.length:Int) - (i + 1)).toNat < ((l.length:Int) - i).toNat:=by omega
      rw [← Int.add_assoc] at hQ'
      rw [W_id (n:=u.1 * u.2.1) (by omega) (by omega),W_id (n:=s + u.1 * u.2.1) (by omega) (by omega)]
      exact ⟨⟨h0,c1⟩,⟨⟨rfl,by omega,by omega,h2,h3,by omega,by omega⟩,hm⟩,hQ'⟩
    · have c1:=of_decide_eq_false c1
      rw [drop_end c1,sumT_nil,Int.add_zero] at hQ'
      exact hQ'
theorem T_plength (l_0:List Tb):fnTree (P:=P) [] (lpOf [(0,R_plengthL)]) Tryz.f59 (encL 0 [.agg tTs] (l_0,())) =
  Tree.need (inv_plengthL ((0:Int),l_0,(l_0.length:Int),(0:Int),())) (.leaf (SV.int IntKind.i64 ((0:Int) + sumT (List.drop (Int.toNat (0:Int)) l_0)))):=by kernel_rfl
def c_plength:PC P:=PC.of (α:=List Tb × Unit) 59 [.agg tTs] (fun x => x) (fun x => x) (fun _ => rfl)
  (fun x => some (x.1.length ≤ 8 ∧ AllF x.1))
  (fun x => .int .i64 (sumT x.1)) (by kernel_rfl) (by
    rintro ⟨l_0,⟨⟩⟩ hp
    refine fn_of hm (by kernel_rfl) (by kernel_rfl) (T_plength l_0) ⟨K_plengthL,trivial⟩ ?_
    try dsimp only at hp
    try dsimp only
    obtain ⟨h1,h2⟩ : l_0.length ≤ 8 ∧ AllF l_0:=hp
    refine ⟨⟨rfl,by omega,by omega,h1,h2,by omega,by omega⟩,?_⟩
    show SV.int _ _ = SV.int _ _
    rw [Int.zero_add]; rfl)
def L_rlengthL:Lay:={ slots:=[(1,.ptr 2028 0),(3,.val tI),(4,.val tI)],boxes:=[(2028,[.val tTs])] }
def L_rlengthL_0:Lay:={ slots:=[(3,.val tI)] }
def X_rlengthL:Exit → St → Option Lay
  | .exit 0,_ => some L_rlengthL_0
  | _,_ => none
abbrev C_rlengthL:Code:=loopC (bodyOf Tryz.f65) 0
theorem B_rlengthL (s i:Int) (l_0:List Tb):loopBodyA (P:=P) [] (lpOf []) [] 28 noU (inner C_rlengthL) L_rlengthL X_rlengthL (α:=Unit × Int × Int × List Tb × Unit) (fun x => x) (fun x => x) ((),s,i,l_0,()) =
  Tree.cond (decide (i < (l_0.length:Int))) (.need ((0:Int) ≤ i ∧ i < (l_0.length:Int)) (.need ((0:Int) ≤ i ∧ i < (l_0.length:Int)) (.leaf (Sum.inl ((),IntKind.i64.wrap (s + IntKind.i64.wrap ((List.getD l_0 (Int.toNat i) (0,0,0,0,0,0,0,0,0)).fst * (List.getD l_0 (Int.toNat i) (0,0,0,0,0,0,0,0,0)).snd.fst)),IntKind.i64.wrap (i + (1:Int)),l_0,()))))) (.leaf (Sum.inr (Exit.exit (0:Nat),Lay.st L_rlengthL_0 noU (s,())))):=by kernel_rfl
def inv_rlengthL:Unit × Int × Int × List Tb × Unit → Prop:=fun ((),s,i,l_0,()) => 0 ≤ i ∧ i ≤ l_0.length ∧ l_0.length ≤ 8 ∧ AllF l_0 ∧ 0 ≤ s ∧ s ≤ 1600000 * i
def O_rlengthL:Unit × Int × Int × List Tb × Unit → Tree (Exit × St):=fun ((),s,i,l_0,()) => (.leaf (.exit 0,L_rlengthL_0.st noU ((s + sumT (l_0.drop i.toNat)),())))
def R_rlengthL:LRun:=runOf 28 L_rlengthL (fun x => x) (inv_rlengthL) (O_rlengthL)
theorem K_rlengthL:LoopOk P [] 28 none noU C_rlengthL (R_rlengthL):=by
  refine loop_of hm (cx:=[]) [] (xl:=X_rlengthL) (α:=Unit × Int × Int × List Tb × Unit) (fun x => x) (fun ((),s,i,l_0,()) => (l_0.length - i).toNat) (fun _ => rfl) (by kernel_rfl) (by kernel_rfl) ?_ (by kernel_rfl) trivial ?_
  · intro e S L' h
    unfold X_rlengthL at h
    split at h <;> first | (cases h; done) | (cases h; kernel_rfl) | (rcases bif_some h with h | h <;> cases h <;> kernel_rfl)
  · rintro ⟨⟨⟩,s,i,l_0,⟨⟩⟩ hinv Q hQ
    refine hold_of_eq (B_rlengthL s i l_0) ?_
    obtain ⟨h0,h1,h2,h3,h4,h5⟩:=hinv
    rw [W_id (n:=i + 1) (by omega) (by omega)]
    have hQ' : Q (.exit 0,L_rlengthL_0.st noU (s + sumT (l_0.drop i.toNat),())):=hQ
    refine ⟨fun c1 => ?_,fun c1 => ?_⟩
    · have c1:=of_decide_eq_true c1
      have hf:=(h3 _ (mem_getD (d:=zT) h0 c1)).prod
      rw [sumT_step h0 c1] at hQ'
      generalize l_0.getD i.toNat zT = u at *
      have hm:((l_0.length:Int) - (i + 1)).toNat < ((l_0.length:Int) - i).toNat:=by omega
      rw [← Int.add_assoc] at hQ'
      rw [W_id (n:=u.1 * u.2.1) (by omega) (by omega),W_id (n:=s + u.1 * u.2.1) (by omega) (by omega)]
      exact ⟨⟨h0,c1⟩,⟨h0,c1⟩,⟨⟨by omega,by omega,h2,h3,by omega,by omega⟩,hm⟩,hQ'⟩
    · have c1:=of_decide_eq_false c1
      rw [drop_end c1,sumT_nil,Int.add_zero] at hQ'
      exact hQ'
theorem T_rlength (l_0:List Tb):fnTree (P:=P) [] (lpOf [(0,R_rlengthL)]) Tryz.f65 (encL 0 [.agg tTs] (l_0,())) =
  Tree.need (inv_rlengthL ((),(0:Int),(0:Int),l_0,())) (.leaf (SV.int IntKind.i64 ((0:Int) + sumT (List.drop (Int.toNat (0:Int)) l_0)))):=by kernel_rfl
def c_rlength:PC P:=PC.of (α:=List Tb × Unit) 65 [.agg tTs] (fun x => x) (fun x => x) (fun _ => rfl)
  (fun x => some (x.1.length ≤ 8 ∧ AllF x.1))
  (fun x => .int .i64 (sumT x.1)) (by kernel_rfl) (by
    rintro ⟨l_0,⟨⟩⟩ hp
    refine fn_of hm (by kernel_rfl) (by kernel_rfl) (T_rlength l_0) ⟨K_rlengthL,trivial⟩ ?_
    try dsimp only at hp
    try dsimp only
    obtain ⟨h1,h2⟩ : l_0.length ≤ 8 ∧ AllF l_0:=hp
    refine ⟨⟨by omega,by omega,h1,h2,by omega,by omega⟩,?_⟩
    show SV.int _ _ = SV.int _ _
    rw [Int.zero_add]; rfl)
theorem T_TCheck (l_0:List Tb):fnTree (P:=P) [c_ixTC.gc,c_plength.gc] (lpOf []) Tryz.f39 (encL 0 [.agg tTs] (l_0,())) =
  Tree.cond ((l_0.length:Int) == (0:Int)) (.leaf (SV.int IntKind.i64 (6:Int))) (.cond (decide ((l_0.length:Int) > (8:Int))) (.leaf (SV.int IntKind.i64 (8:Int))) (.need ((l_0.length:Int) < (2:Int) ^ (62:Nat)) (.cond (List.any l_0 badT) (.leaf (SV.int IntKind.i64 (2:Int))) (.need (List.length l_0 ≤ (8:Nat) ∧ AllF l_0) (.cond (decide (sumT l_0 > (1048576:Int))) (.leaf (SV.int IntKind.i64 (5:Int))) (.leaf (SV.int IntKind.i64 (0:Int)))))))):=by kernel_rfl
def c_TCheck:PC P:=PC.of (α:=List Tb × Unit) 39 [.agg tTs] (fun x => x) (fun x => x) (fun _ => rfl)
  (fun x => some ((x.1.length:Int) < 2 ^ 62))
  (fun x => .int .i64 (checkT x.1)) (by kernel_rfl) (by
    rintro ⟨l_0,⟨⟩⟩ hp
    refine fn_of hm (by kernel_rfl) (by kernel_rfl) (T_TCheck l_0) trivial ?_
    try dsimp only at hp
    try dsimp only
    show Tree.holds (fun s => s = SV.int .i64 (checkT l_0)) _
    have h62:(l_0.length:Int) < 2 ^ 62:=hp
    unfold checkT
    refine ⟨fun c1 => ?_,fun c1 => ⟨fun c2 => ?_,fun c2 => ⟨h62,⟨fun c3 => ?_,fun c3 => ⟨?_,⟨fun c4 => ?_,fun c4 => ?_⟩⟩⟩⟩⟩⟩
    all_goals simp only [beq_iff_eq,beq_eq_false_iff_ne,decide_eq_true_eq,decide_eq_false_iff_not,ne_eq] at *
    · show SV.int _ _ = SV.int _ _
      rw [if_pos (by omega)]
    · show SV.int _ _ = SV.int _ _
      rw [if_neg (by omega),if_pos (by omega)]
    · show SV.int _ _ = SV.int _ _
      rw [if_neg (by omega),if_neg (by omega),if_pos c3]
    · exact ⟨by omega,AllF.of_any c3⟩
    · show SV.int _ _ = SV.int _ _
      rw [if_neg (by omega),if_neg (by omega),if_neg (by rw [c3]; decide),if_pos c4]
    · show SV.int _ _ = SV.int _ _
      rw [if_neg (by omega),if_neg (by omega),if_neg (by rw [c3]; decide),if_neg c4])
def L_rTCheckL:Lay:={ slots:=[(1,.ptr 2029 0),(3,.val tI)],boxes:=[(2029,[.val tTs])] }
def L_rTCheckL_0:Lay:={ slots:=[(2,.val tI)] }
def L_rTCheckL_1:Lay:={ slots:=[(1,.ptr 2029 0)],boxes:=[(2029,[.val tTs])] }
def X_rTCheckL:Exit → St → Option Lay
  | .ret,_ => some L_rTCheckL_0
  | .exit 0,_ => some L_rTCheckL_1
  | _,_ => none
abbrev C_rTCheckL:Code:=loopC (bodyOf Tryz.f44) 0
theorem B_rTCheckL (i:Int) (l_0:List Tb):loopBodyA (P:=P) [c_rfair.gc] (lpOf []) [] 29 noU (inner C_rTCheckL) L_rTCheckL X_rTCheckL (α:=Unit × Int × List Tb × Unit) (fun x => x) (fun x => x) ((),i,l_0,()) =
  Tree.cond (decide (i < (l_0.length:Int))) (.need ((0:Int) ≤ i ∧ i < (l_0.length:Int)) (.cond (!fairT (List.getD l_0 (Int.toNat i) (0,0,0,0,0,0,0,0,0))) (.leaf (Sum.inr (Exit.ret,Lay.st L_rTCheckL_0 noU ((2:Int),())))) (.leaf (Sum.inl ((),IntKind.i64.wrap (i + (1:Int)),l_0,()))))) (.leaf (Sum.inr (Exit.exit (0:Nat),Lay.st L_rTCheckL_1 noU ((),l_0,())))):=by kernel_rfl
def inv_rTCheckL:Unit × Int × List Tb × Unit → Prop:=fun ((),i,l_0,()) => 0 ≤ i ∧ i ≤ l_0.length ∧ l_0.length ≤ 8
def O_rTCheckL:Unit × Int × List Tb × Unit → Tree (Exit × St):=fun ((),i,l_0,()) => .cond ((l_0.drop i.toNat).any badT) (.leaf (.ret,L_rTCheckL_0.st noU (((2:Int)),()))) (.leaf (.exit 0,L_rTCheckL_1.st noU ((),l_0,())))
def R_rTCheckL:LRun:=runOf 29 L_rTCheckL (fun x => x) (inv_rTCheckL) (O_rTCheckL)
theorem K_rTCheckL:LoopOk P [] 29 none noU C_rTCheckL (R_rTCheckL):=by
  refine loop_of hm (cx:=[c_rfair.gc]) [] (xl:=X_rTCheckL) (α:=Unit × Int × List Tb × Unit) (fun x => x) (fun ((),i,l_0,()) => (l_0.length - i).toNat) (fun _ => rfl) (by kernel_rfl) (by kernel_rfl) ?_ (by kernel_rfl) trivial ?_
  · intro e S L' h
    unfold X_rTCheckL at h
    split at h <;> first | (cases h; done) | (cases h; kernel_rfl) | (rcases bif_some h with h | h <;> cases h <;> kernel_rfl)
  · rintro ⟨⟨⟩,i,l_0,⟨⟩⟩ hinv Q hQ
    refine hold_of_eq (B_rTCheckL i l_0) ?_
    obtain ⟨h0,h1,h2⟩:=hinv
    rw [W_id (n:=i + 1) (by omega) (by omega)]
    unfold O_rTCheckL at hQ
    dsimp only at hQ
    refine ⟨fun c1 => ?_,fun c1 => ?_⟩
    · have c1:=of_decide_eq_true c1
      have hm:((l_0.length:Int) - (i + 1)).toNat < ((l_0.length:Int) - i).toNat:=by omega
      rw [drop_step zT h0 c1,List.any_cons] at hQ
      generalize l_0.getD i.toNat zT = u at *
      refine ⟨⟨h0,c1⟩,fun c2 => ?_,fun c2 => ?_⟩
      · replace c2:badT u = true:=c2
        rw [c2,Bool.true_or] at hQ
        exact hQ.1 rfl
      · replace c2:badT u = false:=c2
        rw [c2,Bool.false_or] at hQ
        exact ⟨⟨⟨by omega,by omega,h2⟩,hm⟩,hQ⟩
    · have c1:=of_decide_eq_false c1
      rw [drop_end c1] at hQ
      exact hQ.2 rfl
theorem T_rTCheck (l_0:List Tb):fnTree (P:=P) [c_rlength.gc] (lpOf [(0,R_rTCheckL)]) Tryz.f44 (encL 0 [.agg tTs] (l_0,())) =
  Tree.cond ((l_0.length:Int) == (0:Int)) (.leaf (SV.int IntKind.i64 (6:Int))) (.cond (decide ((l_0.length:Int) > (8:Int))) (.leaf (SV.int IntKind.i64 (8:Int))) (.need (inv_rTCheckL ((),(0:Int),l_0,())) (.cond (List.any (List.drop (Int.toNat (0:Int)) l_0) badT) (.leaf (SV.int IntKind.i64 (2:Int))) (.need (List.length l_0 ≤ (8:Nat) ∧ AllF l_0) (.cond (decide (sumT l_0 > (1048576:Int))) (.leaf (SV.int IntKind.i64 (5:Int))) (.leaf (SV.int IntKind.i64 (0:Int)))))))):=by kernel_rfl
def c_rTCheck:PC P:=PC.of (α:=List Tb × Unit) 44 [.agg tTs] (fun x => x) (fun x => x) (fun _ => rfl)
  (fun _ => none)
  (fun x => .int .i64 (checkT x.1)) (by kernel_rfl) (by
    rintro ⟨l_0,⟨⟩⟩ hp
    refine fn_of hm (by kernel_rfl) (by kernel_rfl) (T_rTCheck l_0) ⟨K_rTCheckL,trivial⟩ ?_
    try dsimp only at hp
    try dsimp only
    show Tree.holds (fun s => s = SV.int .i64 (checkT l_0)) _
    unfold checkT
    refine ⟨fun c1 => ?_,fun c1 => ⟨fun c2 => ?_,fun c2 => ⟨?_,⟨fun c3 => ?_,fun c3 => ⟨?_,⟨fun c4 => ?_,fun c4 => ?_⟩⟩⟩⟩⟩⟩
    all_goals simp only [beq_iff_eq,beq_eq_false_iff_ne,decide_eq_true_eq,decide_eq_false_iff_not,ne_eq,Int.toNat_zero,List.drop_zero] at *
    · show SV.int _ _ = SV.int _ _
      rw [if_pos (by omega)]
    · show SV.int _ _ = SV.int _ _
      rw [if_neg (by omega),if_pos (by omega)]
    · exact ⟨by omega,by omega,by omega⟩
    · show SV.int _ _ = SV.int _ _
      rw [if_neg (by omega),if_neg (by omega),if_pos c3]
    · exact ⟨by omega,AllF.of_any c3⟩
    · show SV.int _ _ = SV.int _ _
      rw [if_neg (by omega),if_neg (by omega),if_neg (by rw [c3]; decide),if_pos c4]
    · show SV.int _ _ = SV.int _ _
      rw [if_neg (by omega),if_neg (by omega),if_neg (by rw [c3]; decide),if_neg c4])
theorem T_TLength (l_0:List Tb):fnTree (P:=P) [c_TCheck.gc,c_plength.gc] (lpOf []) Tryz.f27 (encL 0 [.agg tTs] (l_0,())) =
  Tree.need ((l_0.length:Int) < (2:Int) ^ (62:Nat)) (.cond (checkT l_0 != (0:Int)) (.leaf (SV.int IntKind.i64 (0:Int))) (.need (List.length l_0 ≤ (8:Nat) ∧ AllF l_0) (.leaf (SV.int IntKind.i64 (sumT l_0))))):=by kernel_rfl
def c_TLength:PC P:=PC.of (α:=List Tb × Unit) 27 [.agg tTs] (fun x => x) (fun x => x) (fun _ => rfl)
  (fun x => some ((x.1.length:Int) < 2 ^ 62))
  (fun x => .int .i64 (lenT x.1)) (by kernel_rfl) (by
    rintro ⟨l_0,⟨⟩⟩ hp
    refine fn_of hm (by kernel_rfl) (by kernel_rfl) (T_TLength l_0) trivial ?_
    try dsimp only at hp
    try dsimp only
    show Tree.holds (fun s => s = SV.int .i64 (lenT l_0)) _
    have h62:(l_0.length:Int) < 2 ^ 62:=hp
    unfold lenT
    refine ⟨h62,fun c1 => ?_,fun c1 => ⟨?_,?_⟩⟩
    all_goals simp only [bne_iff_ne,bne_eq_false_iff_eq,ne_eq] at *
    · show SV.int _ _ = SV.int _ _
      rw [if_neg c1]
    · obtain ⟨_,h2,h3,h4⟩:=checkT_ok c1
      exact ⟨h2,h3⟩
    · show SV.int _ _ = SV.int _ _
      rw [if_pos c1])
theorem T_rTLength (l_0:List Tb):fnTree (P:=P) [c_rTCheck.gc,c_rlength.gc] (lpOf []) Tryz.f35 (encL 0 [.agg tTs] (l_0,())) =
  Tree.cond (checkT l_0 != (0:Int)) (.leaf (SV.int IntKind.i64 (0:Int))) (.need (List.length l_0 ≤ (8:Nat) ∧ AllF l_0) (.leaf (SV.int IntKind.i64 (sumT l_0)))):=by kernel_rfl
def c_rTLength:PC P:=PC.of (α:=List Tb × Unit) 35 [.agg tTs] (fun x => x) (fun x => x) (fun _ => rfl)
  (fun _ => none)
  (fun x => .int .i64 (lenT x.1)) (by kernel_rfl) (by
    rintro ⟨l_0,⟨⟩⟩ hp
    refine fn_of hm (by kernel_rfl) (by kernel_rfl) (T_rTLength l_0) trivial ?_
    try dsimp only at hp
    try dsimp only
    show Tree.holds (fun s => s = SV.int .i64 (lenT l_0)) _
    unfold lenT
    refine ⟨fun c1 => ?_,fun c1 => ⟨?_,?_⟩⟩
    all_goals simp only [bne_iff_ne,bne_eq_false_iff_eq,ne_eq] at *
    · show SV.int _ _ = SV.int _ _
      rw [if_neg c1]
    · obtain ⟨_,h2,h3,h4⟩:=checkT_ok c1
      exact ⟨h2,h3⟩
    · show SV.int _ _ = SV.int _ _
      rw [if_pos c1])
theorem T_Wet (t_0 t_1 t_2 t_3 t_4 t_5 t_6 t_7 t_8 m:Int):fnTree (P:=P) [] (lpOf []) Tryz.f43 (encL 0 [.agg tT,.val tI] ((t_0,(t_1,(t_2,(t_3,(t_4,(t_5,(t_6,(t_7,t_8)))))))),m,())) =
  Tree.cond (decide (minI (minI t_2 t_3) m < (0:Int))) (.leaf (SV.int IntKind.i64 (0:Int))) (.cond (decide (maxI (maxI t_2 t_3) m > (1000000000:Int))) (.leaf (SV.int IntKind.i64 (0:Int))) (.leaf (SV.int IntKind.i64 (IntKind.i64.wrap (t_2 - IntKind.i64.wrap (m * t_3)))))):=by kernel_rfl
def c_Wet:PC P:=PC.of (α:=Tb × Int × Unit) 43 [.agg tT,.val tI] (fun x => x) (fun x => x) (fun _ => rfl)
  (fun _ => none)
  (fun x => .int .i64 (wetS x.1 x.2.1)) (by kernel_rfl) (by
    rintro ⟨⟨t_0,⟨t_1,⟨t_2,⟨t_3,⟨t_4,⟨t_5,⟨t_6,⟨t_7,t_8⟩⟩⟩⟩⟩⟩⟩⟩,m,⟨⟩⟩ hp
    refine fn_of hm (by kernel_rfl) (by kernel_rfl) (T_Wet t_0 t_1 t_2 t_3 t_4 t_5 t_6 t_7 t_8 m) trivial ?_
    try dsimp only at hp
    try dsimp only
    show Tree.holds (fun s => s = SV.int .i64 (wetS (t_0,t_1,t_2,t_3,t_4,t_5,t_6,t_7,t_8) m)) _
    unfold wetS
    dsimp only
    refine ⟨fun c1 => ?_,fun c1 => ⟨fun c2 => ?_,fun c2 => ?_⟩⟩
    all_goals simp only [decide_eq_true_eq,decide_eq_false_iff_not,minI_eq,maxI_eq] at *
    · show SV.int _ _ = SV.int _ _
      rw [if_neg (by omega)]
    · show SV.int _ _ = SV.int _ _
      rw [if_neg (by omega)]
    · have h1:=mul_rng (a:=m) (b:=t_3) (A:=1000000000) (B:=1000000000) (by omega) (by omega) (by omega) (by omega)
      show SV.int _ _ = SV.int _ _
      rw [if_pos (by omega),W_id (n:=m * t_3) (by omega) (by omega),W_id (by omega) (by omega)])
theorem T_rWet (t_0 t_1 t_2 t_3 t_4 t_5 t_6 t_7 t_8 m:Int):fnTree (P:=P) [c_between.gc] (lpOf []) Tryz.f46 (encL 0 [.agg tT,.val tI] ((t_0,(t_1,(t_2,(t_3,(t_4,(t_5,(t_6,(t_7,t_8)))))))),m,())) =
  Tree.cond (!wi t_2 (0:Int) (1000000000:Int)) (.leaf (SV.int IntKind.i64 (0:Int))) (.cond (!wi t_3 (0:Int) (1000000000:Int)) (.leaf (SV.int IntKind.i64 (0:Int))) (.cond (!wi m (0:Int) (1000000000:Int)) (.leaf (SV.int IntKind.i64 (0:Int))) (.leaf (SV.int IntKind.i64 (IntKind.i64.wrap (t_2 - IntKind.i64.wrap (m * t_3))))))):=by kernel_rfl
def c_rWet:PC P:=PC.of (α:=Tb × Int × Unit) 46 [.agg tT,.val tI] (fun x => x) (fun x => x) (fun _ => rfl)
  (fun _ => none)
  (fun x => .int .i64 (wetS x.1 x.2.1)) (by kernel_rfl) (by
    rintro ⟨⟨t_0,⟨t_1,⟨t_2,⟨t_3,⟨t_4,⟨t_5,⟨t_6,⟨t_7,t_8⟩⟩⟩⟩⟩⟩⟩⟩,m,⟨⟩⟩ hp
    refine fn_of hm (by kernel_rfl) (by kernel_rfl) (T_rWet t_0 t_1 t_2 t_3 t_4 t_5 t_6 t_7 t_8 m) trivial ?_
    try dsimp only at hp
    try dsimp only
    show Tree.holds (fun s => s = SV.int .i64 (wetS (t_0,t_1,t_2,t_3,t_4,t_5,t_6,t_7,t_8) m)) _
    unfold wetS
    dsimp only
    refine ⟨fun c1 => ?_,fun c1 => ⟨fun c2 => ?_,fun c2 => ⟨fun c3 => ?_,fun c3 => ?_⟩⟩⟩
    · have c1:¬ (0 ≤ t_2 ∧ t_2 ≤ 1000000000):=by rw [← wi_iff]; simpa using c1
      show SV.int _ _ = SV.int _ _
      rw [if_neg (by omega)]
    · have c2:¬ (0 ≤ t_3 ∧ t_3 ≤ 1000000000):=by rw [← wi_iff]; simpa using c2
      show SV.int _ _ = SV.int _ _
      rw [if_neg (by omega)]
    · have c3:¬ (0 ≤ m ∧ m ≤ 1000000000):=by rw [← wi_iff]; simpa using c3
      show SV.int _ _ = SV.int _ _
      rw [if_neg (by omega)]
    · have c1:(0 ≤ t_2 ∧ t_2 ≤ 1000000000):=by rw [← wi_iff]; simpa using c1
      have c2:(0 ≤ t_3 ∧ t_3 ≤ 1000000000):=by rw [← wi_iff]; simpa using c2
      have c3:(0 ≤ m ∧ m ≤ 1000000000):=by rw [← wi_iff]; simpa using c3
      have h1:=mul_rng (a:=m) (b:=t_3) (A:=1000000000) (B:=1000000000) (by omega) (by omega) (by omega) (by omega)
      show SV.int _ _ = SV.int _ _
      rw [if_pos ⟨c1,c2,c3⟩,W_id (n:=m * t_3) (by omega) (by omega),W_id (by omega) (by omega)])
end
end Go.MP
