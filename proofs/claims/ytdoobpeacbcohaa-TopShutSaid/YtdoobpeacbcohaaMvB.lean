/- Strings: the program's and the reference's checks, lengths, weights, joints. -/
import Derived.Test.YtdoobpeacbcohaaMvA
namespace Go.MP
open Go Go.Sx Go.Proofs
set_option linter.unusedVariables false
set_option linter.unusedSimpArgs false
noncomputable section
theorem sumT_step {l:List Tb} {i:Int} (h0:0 ≤ i) (h:i < l.length):sumT (l.drop i.toNat) = (l.getD i.toNat zT).1 * (l.getD i.toNat zT).2.1 + sumT (l.drop (i + 1).toNat):=by
  rw [drop_step zT h0 h]; rfl
theorem sumT_nil:sumT [] = 0:=rfl
def L_plengthL:Lay:={ slots:=[(3,.val tI),(7,.val tTs),(8,.val tI),(9,.val tI)] }
def L_plengthL_0:Lay:={ slots:=[(3,.val tI)] }
def X_plengthL:Exit → St → Option Lay
  | .exit 0,_ => some L_plengthL_0
  | _,_ => none
abbrev C_plengthL:Code:=loopC (bodyOf Try.f43) 0
theorem B_plengthL (s:Int) (l:List Tb) (n i:Int):loopBodyA (P:=P) [] (lpOf []) [] 22 noU (inner C_plengthL) L_plengthL X_plengthL (α:=Int × List Tb × Int × Int × Unit) (fun x => x) (fun x => x) (s,l,n,i,()) =
  Tree.cond (decide (i < n)) (.need ((0:Int) ≤ i ∧ i < (l.length:Int)) (.leaf (Sum.inl (IntKind.i64.wrap (s + IntKind.i64.wrap ((List.getD l (Int.toNat i) (0,0,0,0,0,0,0,0,0)).fst * (List.getD l (Int.toNat i) (0,0,0,0,0,0,0,0,0)).snd.fst)),l,n,IntKind.i64.wrap (i + (1:Int)),())))) (.leaf (Sum.inr (Exit.exit (0:Nat),Lay.st L_plengthL_0 noU (s,())))):=by kernel_rfl
def inv_plengthL:Int × List Tb × Int × Int × Unit → Prop:=fun (s,l,n,i,()) => n = l.length ∧ 0 ≤ i ∧ i ≤ n ∧ l.length ≤ 8 ∧ AllF l ∧ 0 ≤ s ∧ s ≤ 1600000 * i
def O_plengthL:Int × List Tb × Int × Int × Unit → Tree (Exit × St):=fun (s,l,n,i,()) => (.leaf (.exit 0,L_plengthL_0.st noU ((s + sumT (l.drop i.toNat)),())))
def R_plengthL:LRun:=runOf 22 L_plengthL (fun x => x) (inv_plengthL) (O_plengthL)
theorem K_plengthL:LoopOk P [] 22 none noU C_plengthL (R_plengthL):=by
  refine loop_of hm (cx:=[]) [] (xl:=X_plengthL) (α:=Int × List Tb × Int × Int × Unit) (fun x => x) (fun (s,l,n,i,()) => (n - i).toNat) (fun _ => rfl) (by kernel_rfl) (by kernel_rfl) ?_ (by kernel_rfl) trivial ?_
  · intro e S L' h
    unfold X_plengthL at h
    split at h <;> first | (cases h; done) | (cases h; kernel_rfl) | (rcases bif_some h with h | h <;> cases h <;> kernel_rfl)
  · rintro ⟨s,l,n,i,⟨⟩⟩ hinv Q hQ
    refine hold_of_eq (B_plengthL s l n i) ?_
    obtain ⟨rfl,h0,h1,h2,h3,h4,h5⟩:=hinv
    rw [W_id (n:=i + 1) (by omega) (by omega)]
    have hQ' : Q (.exit 0,L_plengthL_0.st noU (s + sumT (l.drop i.toNat),())):=hQ
    refine ⟨fun c1 => ?_,fun c1 => ?_⟩
    · have c1:=of_decide_eq_true c1
      have hf:=(h3 _ (mem_getD (d:=zT) h0 c1)).prod
      rw [sumT_step h0 c1] at hQ'
      generalize l.getD i.toNat zT = u at *
      have hm:((l.length:Int) - (i + 1)).toNat < ((l.length:Int) - i).toNat:=by omega
      rw [← Int.add_assoc] at hQ'
      rw [W_id (n:=u.1 * u.2.1) (by omega) (by omega),W_id (n:=s + u.1 * u.2.1) (by omega) (by omega)]
      exact ⟨⟨h0,c1⟩,⟨⟨rfl,by omega,by omega,h2,h3,by omega,by omega⟩,hm⟩,hQ'⟩
    · have c1:=of_decide_eq_false c1
      rw [drop_end c1,sumT_nil,Int.add_zero] at hQ'
      exact hQ'
theorem T_plength (l_0:List Tb):fnTree (P:=P) [] (lpOf [(0,R_plengthL)]) Try.f43 (encL 0 [.agg tTs] (l_0,())) =
  Tree.need (inv_plengthL ((0:Int),l_0,(l_0.length:Int),(0:Int),())) (.leaf (SV.int IntKind.i64 ((0:Int) + sumT (List.drop (Int.toNat (0:Int)) l_0)))):=by kernel_rfl
def c_plength:PC P:=PC.of (α:=List Tb × Unit) 43 [.agg tTs] (fun x => x) (fun x => x) (fun _ => rfl)
  (fun x => some (x.1.length ≤ 8 ∧ AllF x.1))
  (fun x => .int .i64 (sumT x.1)) (by kernel_rfl) (by
    rintro ⟨l_0,⟨⟩⟩ hp
    refine fn_of hm (by kernel_rfl) (by kernel_rfl) (T_plength l_0) ⟨K_plengthL,trivial⟩ ?_
    try dsimp only at hp
    try dsimp only
    obtain ⟨h1,h2⟩ : l_0.length ≤ 8 ∧ AllF l_0:=hp
    refine ⟨⟨rfl,by omega,by omega,h1,h2,by omega,by omega⟩,?_⟩
    show SV.int _ _ = SV.int _ _
    rw [Int.zero_add]; rfl)
theorem T_TCheck (l_0:List Tb):fnTree (P:=P) [c_ixTC.gc,c_plength.gc] (lpOf []) Try.f16 (encL 0 [.agg tTs] (l_0,())) =
  Tree.cond ((l_0.length:Int) == (0:Int)) (.leaf (SV.int IntKind.i64 (6:Int))) (.cond (decide ((l_0.length:Int) > (8:Int))) (.leaf (SV.int IntKind.i64 (8:Int))) (.need ((l_0.length:Int) < (2:Int) ^ (62:Nat)) (.cond (List.any l_0 badT) (.leaf (SV.int IntKind.i64 (2:Int))) (.need (List.length l_0 ≤ (8:Nat) ∧ AllF l_0) (.cond (decide (sumT l_0 > (1048576:Int))) (.leaf (SV.int IntKind.i64 (5:Int))) (.leaf (SV.int IntKind.i64 (0:Int)))))))):=by kernel_rfl
def c_TCheck:PC P:=PC.of (α:=List Tb × Unit) 16 [.agg tTs] (fun x => x) (fun x => x) (fun _ => rfl)
  (fun x => some ((x.1.length:Int) < 2 ^ 62))
  (fun x => .int .i64 (checkT x.1)) (by kernel_rfl) (by
    rintro ⟨l_0,⟨⟩⟩ hp
    refine fn_of hm (by kernel_rfl) (by kernel_rfl) (T_TCheck l_0) trivial ?_
    try dsimp only at hp
    try dsimp only
    show Tree.holds (fun s => s = SV.int .i64 (checkT l_0)) _
    have h62:(l_0.length:Int) < 2 ^ 62:=hp
    unfold checkT
    refine ⟨fun c1 => ?_,fun c1 => ⟨fun c2 => ?_,fun c2 => ⟨h62,⟨fun c3 => ?_,fun c3 => ⟨?_,⟨fun c4 => ?_,fun c4 => ?_⟩⟩⟩⟩⟩⟩
    all_goals simp only [beq_iff_eq,beq_eq_false_iff_ne,decide_eq_true_eq,decide_eq_false_iff_not,ne_eq] at *
    · show SV.int _ _ = SV.int _ _
      rw [if_pos (by omega)]
    · show SV.int _ _ = SV.int _ _
      rw [if_neg (by omega),if_pos (by omega)]
    · show SV.int _ _ = SV.int _ _
      rw [if_neg (by omega),if_neg (by omega),if_pos c3]
    · exact ⟨by omega,AllF.of_any c3⟩
    · show SV.int _ _ = SV.int _ _
      rw [if_neg (by omega),if_neg (by omega),if_neg (by rw [c3]; decide),if_pos c4]
    · show SV.int _ _ = SV.int _ _
      rw [if_neg (by omega),if_neg (by omega),if_neg (by rw [c3]; decide),if_neg c4])
theorem stepsJ_snoc (k:Nat) (a d:Int):stepsJ (k + 1) a d = (a + d) :: stepsJ k (a + d) d:=rfl
theorem jntL_step {a:Int} {l:List Tb} {i:Int} (h0:0 ≤ i) (h:i < l.length):jntL a (l.drop i.toNat) = stepsJ (l.getD i.toNat zT).1.toNat a (l.getD i.toNat zT).2.1 ++ jntL (a + (l.getD i.toNat zT).1 * (l.getD i.toNat zT).2.1) (l.drop (i + 1).toNat):=by
  rw [drop_step zT h0 h]; rfl
theorem jntL_nil (a:Int):jntL a [] = []:=rfl
def addJ (r:List Int) (k:Nat) (a d:Int):List Int:=r ++ stepsJ k a d
def addL (r:List Int) (a:Int) (l:List Tb):List Int:=r ++ jntL a l
theorem addJ_step (r:List Int) (k:Nat) (a d:Int):addJ r (k + 1) a d = addJ (r ++ [a + d]) k (a + d) d:=by unfold addJ; rw [stepsJ_snoc,List.append_cons]
theorem addJ_nil (r:List Int) (a d:Int):addJ r 0 a d = r:=by unfold addJ; rw [stepsJ,List.append_nil]
theorem addL_nil (r:List Int) (a:Int):addL r a [] = r:=by unfold addL; rw [jntL_nil,List.append_nil]
theorem addL_step {r:List Int} {a:Int} {l:List Tb} {i:Int} (h0:0 ≤ i) (h:i < l.length):addL r a (l.drop i.toNat) = addL (addJ r (l.getD i.toNat zT).1.toNat a (l.getD i.toNat zT).2.1) (a + (l.getD i.toNat zT).1 * (l.getD i.toNat zT).2.1) (l.drop (i + 1).toNat):=by
  unfold addL addJ; rw [jntL_step h0 h,List.append_assoc]
theorem addJ_len (r:List Int) (k:Nat) (a d:Int):(addJ r k a d).length = r.length + k:=by unfold addJ; rw [List.length_append,stepsJ_len]
def lastI (r:List Int):Int:=r.getD (r.length - 1) 0
theorem lastI_snoc (r:List Int) (x:Int):lastI (r ++ [x]) = x:=by unfold lastI; simp [List.getD_eq_getElem?_getD]
theorem lastI_addJ:∀ (k:Nat) (r:List Int) (a d:Int),lastI r = a → lastI (addJ r k a d) = a + k * d
  | 0,r,a,d,h => by rw [addJ_nil,h]; simp
  | k + 1,r,a,d,h => by
    rw [addJ_step,lastI_addJ k _ _ _ (lastI_snoc _ _)]
    grind
theorem last_ix {r:List Int} (h:1 ≤ r.length) (h2:r.length ≤ 1000000):IntKind.i64.wrap ((r.length:Int) - 1) = (r.length:Int) - 1 ∧ r.getD ((r.length:Int) - 1).toNat 0 = lastI r:=by
  refine ⟨W_id (by omega) (by omega),?_⟩
  unfold lastI
  rw [show ((r.length:Int) - 1).toNat = r.length - 1 by omega]
def L_JointsI:Lay:={ slots:=[(3,.row 2 tI),(5,.ptr 6036 0),(11,.val tTs),(12,.val tI),(13,.val tI),(18,.val tI),(19,.val tI)],boxes:=[(6036,[.val tI,.val tI,.val tI,.val tI,.val tI,.val tI,.val tI,.val tI,.val tI])] }
def L_JointsI_0:Lay:={ slots:=[(3,.row 2 tI),(11,.val tTs),(12,.val tI),(13,.val tI)] }
def X_JointsI:Exit → St → Option Lay
  | .exit 2,_ => some L_JointsI_0
  | _,_ => none
abbrev C_JointsI:Code:=loopC (inner (loopC (bodyOf Try.f36) 0)) 2
theorem B_JointsI (r:List Int) (l:List Tb) (n i m j t_0 t_1 t_2 t_3 t_4 t_5 t_6 t_7 t_8:Int):loopBodyA (P:=P) [] (lpOf []) [] 36 noU (inner C_JointsI) L_JointsI X_JointsI (α:=List Int × Unit × List Tb × Int × Int × Int × Int × Int × Int × Int × Int × Int × Int × Int × Int × Int × Unit) (fun x => x) (fun x => x) (r,(),l,n,i,m,j,t_0,t_1,t_2,t_3,t_4,t_5,t_6,t_7,t_8,()) =
  Tree.cond (decide (j < m)) (.need ((0:Int) ≤ IntKind.i64.wrap ((r.length:Int) - (1:Int)) ∧ IntKind.i64.wrap ((r.length:Int) - (1:Int)) < (r.length:Int)) (.need (Int.toNat (IntKind.i64.wrap ((r.length:Int) - (1:Int))) < List.length r) (.need ((List.length r + List.length [IntKind.i64.wrap (List.getD r (Int.toNat (IntKind.i64.wrap ((r.length:Int) - (1:Int)))) (0:Int) + t_1)]) * (8:Nat) ≤ (140737488355328:Nat)) (.leaf (Sum.inl (r ++ [IntKind.i64.wrap (List.getD r (Int.toNat (IntKind.i64.wrap ((r.length:Int) - (1:Int)))) (0:Int) + t_1)],(),l,n,i,m,IntKind.i64.wrap (j + (1:Int)),t_0,t_1,t_2,t_3,t_4,t_5,t_6,t_7,t_8,())))))) (.leaf (Sum.inr (Exit.exit (2:Nat),Lay.st L_JointsI_0 noU (r,l,n,i,())))):=by kernel_rfl
def inv_JointsI:List Int × Unit × List Tb × Int × Int × Int × Int × Int × Int × Int × Int × Int × Int × Int × Int × Int × Unit → Prop:=fun (r,(),l,n,i,m,j,t_0,t_1,t_2,t_3,t_4,t_5,t_6,t_7,t_8,()) => 1 ≤ r.length ∧ 0 ≤ j ∧ j ≤ m ∧ r.length + (m - j) ≤ 100000 ∧ 0 ≤ lastI r ∧ lastI r ≤ 4000 * r.length ∧ 0 ≤ t_1 ∧ t_1 ≤ 4000 ∧ m ≤ 400
def O_JointsI:List Int × Unit × List Tb × Int × Int × Int × Int × Int × Int × Int × Int × Int × Int × Int × Int × Int × Unit → Tree (Exit × St):=fun (r,(),l,n,i,m,j,t_0,t_1,t_2,t_3,t_4,t_5,t_6,t_7,t_8,()) => (.leaf (.exit 2,L_JointsI_0.st noU ((addJ r (m - j).toNat (lastI r) t_1),l,n,i,())))
def R_JointsI:LRun:=runOf 36 L_JointsI (fun x => x) (inv_JointsI) (O_JointsI)
theorem K_JointsI:LoopOk P [] 36 none noU C_JointsI (R_JointsI):=by
  refine loop_of hm (cx:=[]) [] (xl:=X_JointsI) (α:=List Int × Unit × List Tb × Int × Int × Int × Int × Int × Int × Int × Int × Int × Int × Int × Int × Int × Unit) (fun x => x) (fun (r,(),l,n,i,m,j,t_0,t_1,t_2,t_3,t_4,t_5,t_6,t_7,t_8,()) => (m - j).toNat) (fun _ => rfl) (by kernel_rfl) (by kernel_rfl) ?_ (by kernel_rfl) trivial ?_
  · intro e S L' h
    unfold X_JointsI at h
    split at h <;> first | (cases h; done) | (cases h; kernel_rfl) | (rcases bif_some h with h | h <;> cases h <;> kernel_rfl)
  · rintro ⟨r,⟨⟩,l,n,i,m,j,t_0,t_1,t_2,t_3,t_4,t_5,t_6,t_7,t_8,⟨⟩⟩ hinv Q hQ
    refine hold_of_eq (B_JointsI r l n i m j t_0 t_1 t_2 t_3 t_4 t_5 t_6 t_7 t_8) ?_
    obtain ⟨h0,h1,h2,h3,h4,h5,h6,h7,h8⟩:=hinv
    have hQ' : Q (.exit 2,L_JointsI_0.st noU (addJ r (m - j).toNat (lastI r) t_1,l,n,i,())):=hQ
    obtain ⟨e1,e2⟩:=last_ix h0 (by omega)
    rw [e1,e2]
    refine ⟨fun c1 => ⟨by omega,⟨by omega,⟨?_,?_⟩⟩⟩,fun c1 => ?_⟩
    · simp only [List.length_cons,List.length_nil]; omega
    · have c1:=of_decide_eq_true c1
      rw [W_id (n:=j + 1) (by omega) (by omega),W_id (n:=lastI r + t_1) (by omega) (by omega)]
      have e3:=lastI_snoc r (lastI r + t_1)
      have hm:(m - (j + 1)).toNat < (m - j).toNat:=by omega
      rw [show (m - j).toNat = (m - (j + 1)).toNat + 1 by omega,addJ_step] at hQ'
      refine ⟨⟨⟨by simp,by omega,by omega,by simp only [List.length_append,List.length_cons,List.length_nil]; omega,by omega,by simp only [List.length_append,List.length_cons,List.length_nil]; omega,h6,h7,h8⟩,hm⟩,?_⟩
      have hg:Q (.exit 2,L_JointsI_0.st noU (addJ (r ++ [lastI r + t_1]) (m - (j + 1)).toNat (lastI (r ++ [lastI r + t_1])) t_1,l,n,i,())):=by rw [lastI_snoc]; exact hQ'
      exact hg
    · have c1:=of_decide_eq_false c1
      rw [show (m - j).toNat = 0 by omega,addJ_nil] at hQ'
      exact hQ'
def L_JointsO:Lay:={ slots:=[(3,.row 2 tI),(11,.val tTs),(12,.val tI),(13,.val tI)] }
def L_JointsO_0:Lay:={ slots:=[(3,.row 2 tI)] }
def X_JointsO:Exit → St → Option Lay
  | .exit 0,_ => some L_JointsO_0
  | _,_ => none
abbrev C_JointsO:Code:=loopC (bodyOf Try.f36) 0
theorem B_JointsO (r:List Int) (l:List Tb) (n i:Int):loopBodyA (P:=P) [] (lpOf [(2,R_JointsI)]) [] 36 noU (inner C_JointsO) L_JointsO X_JointsO (α:=List Int × List Tb × Int × Int × Unit) (fun x => x) (fun x => x) (r,l,n,i,()) =
  Tree.cond (decide (i < n)) (.need ((0:Int) ≤ i ∧ i < (l.length:Int)) (.need (inv_JointsI (r,(),l,n,i,(List.getD l (Int.toNat i) (0,0,0,0,0,0,0,0,0)).fst,(0:Int),(List.getD l (Int.toNat i) (0,0,0,0,0,0,0,0,0)).fst,(List.getD l (Int.toNat i) (0,0,0,0,0,0,0,0,0)).snd.fst,(List.getD l (Int.toNat i) (0,0,0,0,0,0,0,0,0)).snd.snd.fst,(List.getD l (Int.toNat i) (0,0,0,0,0,0,0,0,0)).snd.snd.snd.fst,(List.getD l (Int.toNat i) (0,0,0,0,0,0,0,0,0)).snd.snd.snd.snd.fst,(List.getD l (Int.toNat i) (0,0,0,0,0,0,0,0,0)).snd.snd.snd.snd.snd.fst,(List.getD l (Int.toNat i) (0,0,0,0,0,0,0,0,0)).snd.snd.snd.snd.snd.snd.fst,(List.getD l (Int.toNat i) (0,0,0,0,0,0,0,0,0)).snd.snd.snd.snd.snd.snd.snd.fst,(List.getD l (Int.toNat i) (0,0,0,0,0,0,0,0,0)).snd.snd.snd.snd.snd.snd.snd.snd,())) (.leaf (Sum.inl (addJ r (Int.toNat ((List.getD l (Int.toNat i) (0,0,0,0,0,0,0,0,0)).fst - (0:Int))) (lastI r) (List.getD l (Int.toNat i) (0,0,0,0,0,0,0,0,0)).snd.fst,l,n,IntKind.i64.wrap (i + (1:Int)),()))))) (.leaf (Sum.inr (Exit.exit (0:Nat),Lay.st L_JointsO_0 noU (r,())))):=by kernel_rfl
def inv_JointsO:List Int × List Tb × Int × Int × Unit → Prop:=fun (r,l,n,i,()) => n = l.length ∧ 0 ≤ i ∧ i ≤ n ∧ l.length ≤ 8 ∧ AllF l ∧ 1 ≤ r.length ∧ r.length ≤ 1 + 400 * i ∧ 0 ≤ lastI r ∧ lastI r ≤ 4000 * r.length
def O_JointsO:List Int × List Tb × Int × Int × Unit → Tree (Exit × St):=fun (r,l,n,i,()) => (.leaf (.exit 0,L_JointsO_0.st noU ((addL r (lastI r) (l.drop i.toNat)),())))
def R_JointsO:LRun:=runOf 36 L_JointsO (fun x => x) (inv_JointsO) (O_JointsO)
theorem K_JointsO:LoopOk P [] 36 none noU C_JointsO (R_JointsO):=by
  refine loop_of hm (cx:=[]) [(2,R_JointsI)] (xl:=X_JointsO) (α:=List Int × List Tb × Int × Int × Unit) (fun x => x) (fun (r,l,n,i,()) => (n - i).toNat) (fun _ => rfl) (by kernel_rfl) (by kernel_rfl) ?_ (by kernel_rfl) ⟨K_JointsI,trivial⟩ ?_
  · intro e S L' h
    unfold X_JointsO at h
    split at h <;> first | (cases h; done) | (cases h; kernel_rfl) | (rcases bif_some h with h | h <;> cases h <;> kernel_rfl)
  · rintro ⟨r,l,n,i,⟨⟩⟩ hinv Q hQ
    refine hold_of_eq (B_JointsO r l n i) ?_
    obtain ⟨rfl,h0,h1,h2,h3,h4,h5,h6,h7⟩:=hinv
    rw [W_id (n:=i + 1) (by omega) (by omega)]
    have hQ' : Q (.exit 0,L_JointsO_0.st noU (addL r (lastI r) (l.drop i.toNat),())):=hQ
    refine ⟨fun c1 => ?_,fun c1 => ?_⟩
    · have c1:=of_decide_eq_true c1
      have hf:=h3 _ (mem_getD (d:=zT) h0 c1)
      have hc:=hf.cnt
      have hl:=hf.len
      rw [addL_step h0 c1] at hQ'
      generalize l.getD i.toNat zT = u at *
      have hm:((l.length:Int) - (i + 1)).toNat < ((l.length:Int) - i).toNat:=by omega
      rw [show u.1 - 0 = u.1 by omega]
      have e1:=lastI_addJ u.1.toNat r (lastI r) u.2.1 rfl
      have e2:=addJ_len r u.1.toNat (lastI r) u.2.1
      rw [show ((u.1.toNat:Nat):Int) = u.1 by omega] at e1
      have hp:=mul_rng (a:=u.1) (b:=u.2.1) (A:=u.1) (B:=4000) (by omega) (by omega) (by omega) (by omega)
      refine ⟨⟨h0,c1⟩,⟨⟨by omega,by omega,by omega,by omega,h6,h7,by omega,by omega,by omega⟩,⟨⟨rfl,by omega,by omega,h2,h3,by omega,by omega,by omega,by omega⟩,hm⟩,?_⟩⟩
      rw [← e1] at hQ'
      exact hQ'
    · have c1:=of_decide_eq_false c1
      rw [drop_end c1,addL_nil] at hQ'
      exact hQ'
theorem T_TJoints (l_0:List Tb):fnTree (P:=P) [c_TCheck.gc] (lpOf [(0,R_JointsO)]) Try.f36 (encL 0 [.agg tTs] (l_0,())) =
  Tree.need ((l_0.length:Int) < (2:Int) ^ (62:Nat)) (.cond (checkT l_0 != (0:Int)) (.leaf SV.nils) (.need (inv_JointsO ([(0:Int)],l_0,(l_0.length:Int),(0:Int),())) (.leaf (SV.sl (Ty.int IntKind.i64) (addL [(0:Int)] (lastI [(0:Int)]) (List.drop (Int.toNat (0:Int)) l_0)))))):=by kernel_rfl
def c_TJoints:PC P:=PC.of (α:=List Tb × Unit) 36 [.agg tTs] (fun x => x) (fun x => x) (fun _ => rfl)
  (fun x => some ((x.1.length:Int) < 2 ^ 62))
  (fun x => .sl tI (jntT x.1)) (by kernel_rfl) (by
    rintro ⟨l_0,⟨⟩⟩ hp
    refine fn_le hm (by kernel_rfl) (by kernel_rfl) (T_TJoints l_0) ⟨K_JointsO,trivial⟩ (by kernel_rfl) ?_
    try dsimp only at hp
    try dsimp only
    show Tree.holds (fun s => LeS s (SV.sl tI (jntT l_0))) _
    have h62:(l_0.length:Int) < 2 ^ 62:=hp
    unfold jntT
    refine ⟨h62,⟨fun c1 => ?_,fun c1 => ⟨?_,?_⟩⟩⟩
    all_goals simp only [bne_iff_ne,bne_eq_false_iff_eq,ne_eq] at *
    · rw [if_neg c1]
      exact rfl
    · obtain ⟨_,h2,h3,h4⟩:=checkT_ok c1
      exact ⟨rfl,by omega,by omega,h2,h3,by decide,by decide,by decide,by decide⟩
    · rw [if_pos c1]
      exact rfl)
theorem jntT_len (l:List Tb):((jntT l).length:Int) ≤ 3201:=by
  unfold jntT
  split
  · rename_i h
    obtain ⟨_,h2,h3,h4⟩:=checkT_ok h
    have:=jntL_len l h3 0
    rw [List.length_cons]; omega
  · decide
def inS (a b n:Int):Bool:=wi n a b
def nearS (l:List Tb) (a b:Int):Bool:=(jntT l).any (inS a b)
def L_near1:Lay:={ slots:=[(0,.val tI),(1,.ptr 1 0),(2,.ptr 2 0)],boxes:=[(1,[.val tI]),(2,[.val tI])] }
theorem T_near1 (n a b:Int):mTree (P:=P) [c_twithin.gc] (lpOf []) Try.f37 L_near1 true (n,(),(),a,b,()) =
  Tree.leaf { res:=SV.bool (wi n a b),boxes:=[[SV.int IntKind.i64 a],[SV.int IntKind.i64 b]] }:=by kernel_rfl
def c_near1:MC P:=MC.of (α:=Int × Unit × Unit × Int × Int × Unit) 37 L_near1 (fun x => x) (fun x => x) (fun _ => rfl)
  (fun _ => none)
  (fun (n,_,_,a,b,_) => ⟨.bool (inS a b n),[[.int .i64 a],[.int .i64 b]],[]⟩) (by kernel_rfl) (by kernel_rfl) (by kernel_rfl) (by
    rintro ⟨n,⟨⟩,⟨⟩,a,b,⟨⟩⟩ hp
    refine m_of hm (own:=true) (by kernel_rfl) (by kernel_rfl) (by kernel_rfl) (T_near1 n a b) trivial ?_
    exact rfl)
def L_ixN0:Lay:={ slots:=[(0,.val (.sl tI)),(1,.clo 37 [(1,0),(2,0)])],boxes:=[(1,[.val tI]),(2,[.val tI])] }
def L_ixNL:Lay:={ slots:=[(0,.val (.sl tI)),(1,.clo 37 [(1,0),(2,0)]),(7,.val tI),(8,.val tI)],boxes:=[(1,[.val tI]),(2,[.val tI])] }
def L_ixNL_0:Lay:={ slots:=[],boxes:=[(1,[.val tI]),(2,[.val tI])] }
def L_ixNL_1:Lay:={ slots:=[(4,.val tI)],boxes:=[(1,[.val tI]),(2,[.val tI])] }
def X_ixNL:Exit → St → Option Lay
  | .exit 0,_ => some L_ixNL_0
  | .ret,_ => some L_ixNL_1
  | _,_ => none
abbrev C_ixNL:Code:=loopC (bodyOf Try.f60) 0
theorem B_ixNL (l:List Int) (n i:Int) (a b:Int):loopBodyA (P:=P) [c_near1.gc] (lpOf []) [] 19 (usd noU (L_ixN0.ids ++ rowIds rowBase L_ixN0.shs)) (inner C_ixNL) L_ixNL X_ixNL (α:=List Int × Unit × Int × Int × Int × Int × Unit) (fun x => x) (fun x => x) (l,(),n,i,a,b,()) =
  Tree.cond (decide (i < n)) (.need ((0:Int) ≤ i ∧ i < (l.length:Int)) (.cond (inS a b (List.getD l (Int.toNat i) (0:Int))) (.leaf (Sum.inr (Exit.ret,Lay.st L_ixNL_1 (usd noU (Lay.ids L_ixN0 ++ rowIds rowBase (Lay.shs L_ixN0))) (i,a,b,())))) (.leaf (Sum.inl (l,(),n,IntKind.i64.wrap (i + (1:Int)),a,b,()))))) (.leaf (Sum.inr (Exit.exit (0:Nat),Lay.st L_ixNL_0 (usd noU (Lay.ids L_ixN0 ++ rowIds rowBase (Lay.shs L_ixN0))) (a,b,())))):=by kernel_rfl
def inv_ixNL:List Int × Unit × Int × Int × Int × Int × Unit → Prop:=fun (l,_,n,i,a,b,_) => n = l.length ∧ 0 ≤ i ∧ i ≤ n ∧ (l.length:Int) < 2 ^ 62
def O_ixNL:List Int × Unit × Int × Int × Int × Int × Unit → Tree (Exit × St):=fun (l,_,n,i,a,b,_) => .cond ((l.drop i.toNat).any (inS a b)) (.leaf (.ret,L_ixNL_1.st (usd noU (L_ixN0.ids ++ rowIds rowBase L_ixN0.shs)) (ixR (inS a b) l i,a,b,()))) (.leaf (.exit 0,L_ixNL_0.st (usd noU (L_ixN0.ids ++ rowIds rowBase L_ixN0.shs)) (a,b,())))
def R_ixNL:LRun:=runOf 19 L_ixNL (fun x => x) (inv_ixNL) (O_ixNL)
theorem K_ixNL:LoopOk P [] 19 none (usd noU (L_ixN0.ids ++ rowIds rowBase L_ixN0.shs)) C_ixNL (R_ixNL):=by
  refine loop_of hm (cx:=[c_near1.gc]) [] (xl:=X_ixNL) (α:=List Int × Unit × Int × Int × Int × Int × Unit) (fun x => x) (fun (l,_,n,i,a,b,_) => (n - i).toNat) (fun _ => rfl) (by kernel_rfl) (by kernel_rfl) ?_ (by kernel_rfl) trivial ?_
  · intro e S L' h
    unfold X_ixNL at h
    split at h <;> first | (cases h; done) | (cases h; kernel_rfl) | (rcases bif_some h with h | h <;> cases h <;> kernel_rfl)
  · rintro ⟨l,⟨⟩,n,i,a,b,⟨⟩⟩ hinv Q hQ
    refine hold_of_eq (B_ixNL l n i a b) ?_
    obtain ⟨rfl,h0,h1,h2⟩:=hinv
    rw [W_id (n:=i + 1) (by omega) (by omega)]
    unfold O_ixNL at hQ
    dsimp only at hQ
    refine ⟨fun hi => ?_,fun hi => ?_⟩
    · simp only [decide_eq_true_eq] at hi
      have hm:((l.length:Int) - (i + 1)).toNat < ((l.length:Int) - i).toNat:=by omega
      obtain ⟨e1,e2,e3⟩:=ix_step (p:=inS a b) (0:Int) h0 hi
      rw [e1] at hQ
      refine ⟨⟨h0,hi⟩,fun hp => ?_,fun hp => ?_⟩
      · replace hp:(inS a b) (l.getD i.toNat (0:Int)) = true:=hp
        rw [hp,Bool.true_or,e2 hp] at hQ
        exact hQ.1 rfl
      · replace hp:(inS a b) (l.getD i.toNat (0:Int)) = false:=hp
        rw [hp,Bool.false_or,e3 hp] at hQ
        exact ⟨⟨⟨rfl,by omega,by omega,h2⟩,hm⟩,hQ⟩
    · simp only [decide_eq_false_iff_not] at hi
      rw [drop_end hi] at hQ
      exact hQ.2 rfl
def L_ixN:Lay:={ slots:=[(0,.val (.sl tI)),(1,.clo 37 [(1,0),(2,0)])],boxes:=[(1,[.val tI]),(2,[.val tI])] }
theorem T_ixN (l:List Int) (a b:Int):mTree (P:=P) [] (lpOf [(0,R_ixNL)]) Try.f60 L_ixN true (l,(),a,b,()) =
  Tree.need (inv_ixNL (l,(),(l.length:Int),(0:Int),a,b,())) (.cond (List.any (List.drop (Int.toNat (0:Int)) l) (inS a b)) (.leaf { res:=SV.int IntKind.i64 (ixR (inS a b) l (0:Int)),boxes:=[[SV.int IntKind.i64 a],[SV.int IntKind.i64 b]] }) (.leaf { res:=SV.int IntKind.i64 (-1:Int),boxes:=[[SV.int IntKind.i64 a],[SV.int IntKind.i64 b]] })):=by kernel_rfl
def c_ixN:MC P:=MC.of (α:=List Int × Unit × Int × Int × Unit) 60 L_ixN (fun x => x) (fun x => x) (fun _ => rfl)
  (fun (l,_,a,b,_) => some ((l.length:Int) < 2 ^ 62))
  (fun (l,_,a,b,_) => ⟨.int .i64 (ixS (inS a b) l),[[.int .i64 a],[.int .i64 b]],[]⟩) (by kernel_rfl) (by kernel_rfl) (by kernel_rfl) (by
    rintro ⟨l,⟨⟩,a,b,⟨⟩⟩ hp
    refine m_of hm (own:=true) (by kernel_rfl) (by kernel_rfl) (by kernel_rfl) (T_ixN l a b) ⟨K_ixNL,trivial⟩ ?_
    refine ⟨⟨rfl,by omega,by omega,hp⟩,fun h => ?_,fun h => ?_⟩
    · simp only [Int.toNat_zero,List.drop_zero] at h
      have e:ixR (inS a b) l 0 = ixS (inS a b) l:=by
        unfold ixS ixR
        rw [if_pos h]
        simp only [Int.toNat_zero,List.drop_zero,Int.zero_add]
      exact congrArg (fun k:Int => (⟨.int .i64 k,[[.int .i64 a],[.int .i64 b]],[]⟩ : MOut)) e
    · simp only [Int.toNat_zero,List.drop_zero] at h
      have e : -1 = ixS (inS a b) l:=by
        unfold ixS
        rw [if_neg (by simp only [h]; decide)]
      exact congrArg (fun k:Int => (⟨.int .i64 k,[[.int .i64 a],[.int .i64 b]],[]⟩ : MOut)) e)
def L_ixNC:Lay:={ slots:=[(0,.val (.sl tI)),(1,.clo 37 [(1,0),(2,0)])],boxes:=[(1,[.val tI]),(2,[.val tI])] }
theorem T_ixNC (l:List Int) (a b:Int):mTree (P:=P) [c_ixN.gc] (lpOf []) Try.f35 L_ixNC true (l,(),a,b,()) =
  Tree.need ((l.length:Int) < (2:Int) ^ (62:Nat)) (.leaf { res:=SV.bool (decide (ixS (inS a b) l ≥ (0:Int))),boxes:=[[SV.int IntKind.i64 a],[SV.int IntKind.i64 b]] }):=by kernel_rfl
def c_ixNC:MC P:=MC.of (α:=List Int × Unit × Int × Int × Unit) 35 L_ixNC (fun x => x) (fun x => x) (fun _ => rfl)
  (fun (l,_,a,b,_) => some ((l.length:Int) < 2 ^ 62))
  (fun (l,_,a,b,_) => ⟨.bool (l.any (inS a b)),[[.int .i64 a],[.int .i64 b]],[]⟩) (by kernel_rfl) (by kernel_rfl) (by kernel_rfl) (by
    rintro ⟨l,⟨⟩,a,b,⟨⟩⟩ hp
    refine m_of hm (own:=true) (by kernel_rfl) (by kernel_rfl) (by kernel_rfl) (T_ixNC l a b) trivial ?_
    exact ⟨hp,congrArg (fun k:Bool => (⟨.bool k,[[.int .i64 a],[.int .i64 b]],[]⟩ : MOut)) (ixS_ge (inS a b) l)⟩)
theorem T_Near (l_0:List Tb) (a b:Int):fnTree (P:=P) [c_TJoints.gc,c_ixNC.gc] (lpOf []) Try.f14 (encL 0 [.agg tTs,.val tI,.val tI] (l_0,a,b,())) =
  Tree.need ((l_0.length:Int) < (2:Int) ^ (62:Nat)) (.need ((↑(List.length (jntT l_0)):Int) < (2:Int) ^ (62:Nat)) (.leaf (SV.bool (List.any (jntT l_0) (inS a b))))):=by kernel_rfl
def c_Near:PC P:=PC.of (α:=List Tb × Int × Int × Unit) 14 [.agg tTs,.val tI,.val tI] (fun x => x) (fun x => x) (fun _ => rfl)
  (fun x => some ((x.1.length:Int) < 2 ^ 62))
  (fun x => .bool (nearS x.1 x.2.1 x.2.2.1)) (by kernel_rfl) (by
    rintro ⟨l_0,a,b,⟨⟩⟩ hp
    refine fn_of hm (by kernel_rfl) (by kernel_rfl) (T_Near l_0 a b) trivial ?_
    try dsimp only at hp
    try dsimp only
    have h62:(l_0.length:Int) < 2 ^ 62:=hp
    have:=jntT_len l_0
    exact ⟨h62,by omega,rfl⟩)
end
end Go.MP
