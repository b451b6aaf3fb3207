/- Rigs: rig.Check, CheckState, what moves are allowed. -/
import Derived.Test.YtdoobpeacbcohaaMxA
namespace Go.MR
open Go Go.Sx Go.Proofs
set_option linter.unusedVariables false
set_option linter.unusedSimpArgs false
noncomputable section
def banE (ps:List Int) (b:Ban):Int :=
  if b.1 < 0 ∨ b.1 ≥ b.2.2.2.1 ∨ b.2.2.2.1 ≥ (ps.length:Int) then 11
  else if b.2.1 < 0 ∨ b.2.1 > b.2.2.1 ∨ b.2.2.1 ≥ ps.getD b.1.toNat 0 ∨ b.2.2.2.2.1 < 0 ∨ b.2.2.2.2.1 > b.2.2.2.2.2 ∨ b.2.2.2.2.2 ≥ ps.getD b.2.2.2.1.toNat 0 then 2
  else 0
def banEs (ps:List Int):List Ban → Int
  | [] => 0
  | b :: l => if banE ps b ≠ 0 then banE ps b else banEs ps l
theorem banEs_nil (ps:List Int):banEs ps [] = 0:=rfl
theorem banEs_step {ps:List Int} {l:List Ban} {i:Int} (h0:0 ≤ i) (h:i < l.length):banEs ps (l.drop i.toNat) = if banE ps (l.getD i.toNat (0,0,0,0,0,0)) ≠ 0 then banE ps (l.getD i.toNat (0,0,0,0,0,0)) else banEs ps (l.drop (i + 1).toNat):=by
  rw [drop_step ((0,0,0,0,0,0):Ban) h0 h,banEs]
def checkS (r:Rig):Int :=
  if (r.1.length:Int) < 2 then 6
  else if (r.1.length:Int) > 4 then 8
  else if r.1.any badP = true then 2
  else if (r.2.length:Int) > 24 then 8
  else banEs r.1 r.2
def L_Check:Lay:={ slots:=[(1,.ptr 2094 0),(25,.val (.sl (.pair tI (.pair tI (.pair tI tV))))),(26,.val tI),(27,.val tI)],boxes:=[(2094,[.val tIs,.val (.sl (.pair tI (.pair tI (.pair tI tV))))])] }
def L_Check_0:Lay:={ slots:=[(2,.val tI)] }
def L_Check_1:Lay:={ slots:=[] }
def X_Check:Exit → St → Option Lay
  | .ret,_ => some L_Check_0
  | .exit 1,_ => some L_Check_1
  | _,_ => none
abbrev C_Check:Code:=loopC (bodyOf Try.f32) 1
theorem B_Check (l:List (Int × (Int × (Int × V)))) (n i:Int) (ps:List Int) (bs:List (Int × (Int × (Int × V)))):loopBodyA (P:=P) [] (lpOf []) [] 94 noU (inner C_Check) L_Check X_Check (α:=Unit × List (Int × (Int × (Int × V))) × Int × Int × List Int × List (Int × (Int × (Int × V))) × Unit) (fun x => x) (fun x => x) ((),l,n,i,ps,bs,()) =
  Tree.cond (decide (i < n)) (.need ((0:Int) ≤ i ∧ i < (l.length:Int)) (.cond (decide ((List.getD l (Int.toNat i) (0,0,0,0,0,0)).fst < (0:Int))) (.leaf (Sum.inr (Exit.ret,Lay.st L_Check_0 noU ((11:Int),())))) (.cond (decide ((List.getD l (Int.toNat i) (0,0,0,0,0,0)).fst ≥ (List.getD l (Int.toNat i) (0,0,0,0,0,0)).snd.snd.snd.fst)) (.leaf (Sum.inr (Exit.ret,Lay.st L_Check_0 noU ((11:Int),())))) (.cond (decide ((List.getD l (Int.toNat i) (0,0,0,0,0,0)).snd.snd.snd.fst ≥ (ps.length:Int))) (.leaf (Sum.inr (Exit.ret,Lay.st L_Check_0 noU ((11:Int),())))) (.cond (decide ((List.getD l (Int.toNat i) (0,0,0,0,0,0)).snd.fst < (0:Int))) (.leaf (Sum.inr (Exit.ret,Lay.st L_Check_0 noU ((2:Int),())))) (.cond (decide ((List.getD l (Int.toNat i) (0,0,0,0,0,0)).snd.fst > (List.getD l (Int.toNat i) (0,0,0,0,0,0)).snd.snd.fst)) (.leaf (Sum.inr (Exit.ret,Lay.st L_Check_0 noU ((2:Int),())))) (.need ((0:Int) ≤ (List.getD l (Int.toNat i) (0,0,0,0,0,0)).fst ∧ (List.getD l (Int.toNat i) (0,0,0,0,0,0)).fst < (ps.length:Int)) (.cond (decide ((List.getD l (Int.toNat i) (0,0,0,0,0,0)).snd.snd.fst ≥ List.getD ps (Int.toNat (List.getD l (Int.toNat i) (0,0,0,0,0,0)).fst) (0:Int))) (.leaf (Sum.inr (Exit.ret,Lay.st L_Check_0 noU ((2:Int),())))) (.cond (decide ((List.getD l (Int.toNat i) (0,0,0,0,0,0)).snd.snd.snd.snd.fst < (0:Int))) (.leaf (Sum.inr (Exit.ret,Lay.st L_Check_0 noU ((2:Int),())))) (.cond (decide ((List.getD l (Int.toNat i) (0,0,0,0,0,0)).snd.snd.snd.snd.fst > (List.getD l (Int.toNat i) (0,0,0,0,0,0)).snd.snd.snd.snd.snd)) (.leaf (Sum.inr (Exit.ret,Lay.st L_Check_0 noU ((2:Int),())))) (.need ((0:Int) ≤ (List.getD l (Int.toNat i) (0,0,0,0,0,0)).snd.snd.snd.fst ∧ (List.getD l (Int.toNat i) (0,0,0,0,0,0)).snd.snd.snd.fst < (ps.length:Int)) (.cond (decide ((List.getD l (Int.toNat i) (0,0,0,0,0,0)).snd.snd.snd.snd.snd ≥ List.getD ps (Int.toNat (List.getD l (Int.toNat i) (0,0,0,0,0,0)).snd.snd.snd.fst) (0:Int))) (.leaf (Sum.inr (Exit.ret,Lay.st L_Check_0 noU ((2:Int),())))) (.leaf (Sum.inl ((),l,n,IntKind.i64.wrap (i + (1:Int)),ps,bs,()))))))))))))))) (.leaf (Sum.inr (Exit.exit (1:Nat),Lay.st L_Check_1 noU ()))):=by kernel_rfl
def inv_Check:Unit × List (Int × (Int × (Int × V))) × Int × Int × List Int × List (Int × (Int × (Int × V))) × Unit → Prop:=fun ((),l,n,i,ps,bs,()) => n = l.length ∧ 0 ≤ i ∧ i ≤ n ∧ (l.length:Int) ≤ 1000
def O_Check:Unit × List (Int × (Int × (Int × V))) × Int × Int × List Int × List (Int × (Int × (Int × V))) × Unit → Tree (Exit × St):=fun ((),l,n,i,ps,bs,()) => .cond (decide (banEs ps (l.drop i.toNat) = 0)) (.leaf (.exit 1,L_Check_1.st noU ())) (.leaf (.ret,L_Check_0.st noU ((banEs ps (l.drop i.toNat)),())))
def R_Check:LRun:=runOf 94 L_Check (fun x => x) (inv_Check) (O_Check)
theorem K_Check:LoopOk P [] 94 none noU C_Check (R_Check):=by
  refine loop_of hm (cx:=[]) [] (xl:=X_Check) (α:=Unit × List (Int × (Int × (Int × V))) × Int × Int × List Int × List (Int × (Int × (Int × V))) × Unit) (fun x => x) (fun ((),l,n,i,ps,bs,()) => (n - i).toNat) (fun _ => rfl) (by kernel_rfl) (by kernel_rfl) ?_ (by kernel_rfl) trivial ?_
  · intro e S L' h
    unfold X_Check at h
    split at h <;> first | (cases h; done) | (cases h; kernel_rfl) | (rcases bif_some h with h | h <;> cases h <;> kernel_rfl)
  · rintro ⟨⟨⟩,l,n,i,ps,bs,⟨⟩⟩ hinv Q hQ
    refine hold_of_eq (B_Check l n i ps bs) ?_
    obtain ⟨rfl,h0,h1,h2⟩:=hinv
    rw [W_id (n:=i + 1) (by omega) (by omega)]
    unfold O_Check at hQ
    dsimp only at hQ
    refine ⟨fun c1 => ?_,fun c1 => ?_⟩
    · simp only [decide_eq_true_eq] at c1
      have hm:((l.length:Int) - (i + 1)).toNat < ((l.length:Int) - i).toNat:=by omega
      have e:=banEs_step (ps:=ps) h0 c1
      generalize l.getD i.toNat ((0,0,0,0,0,0):Ban) = b at *
      rw [e] at hQ
      have bad:∀ k:Int,k ≠ 0 → banE ps b = k → Q (.ret,L_Check_0.st noU (k,())):=fun k hk hb => by
        rw [hb,if_pos hk] at hQ
        exact hQ.2 (decide_eq_false hk)
      refine ⟨⟨h0,c1⟩,fun c2 => ?_,fun c2 => ⟨fun c3 => ?_,fun c3 => ⟨fun c4 => ?_,fun c4 => ?_⟩⟩⟩
      · have:=of_decide_eq_true c2
        exact bad 11 (by decide) (by unfold banE; rw [if_pos (by omega)])
      · have:=of_decide_eq_true c3
        exact bad 11 (by decide) (by unfold banE; rw [if_pos (by omega)])
      · have:=of_decide_eq_true c4
        exact bad 11 (by decide) (by unfold banE; rw [if_pos (by omega)])
      have d2:=of_decide_eq_false c2
      have d3:=of_decide_eq_false c3
      have d4:=of_decide_eq_false c4
      refine ⟨fun c5 => ?_,fun c5 => ⟨fun c6 => ?_,fun c6 => ⟨⟨by omega,by omega⟩,fun c7 => ?_,fun c7 => ⟨fun c8 => ?_,fun c8 => ⟨fun c9 => ?_,fun c9 => ⟨⟨by omega,by omega⟩,fun c10 => ?_,fun c10 => ?_⟩⟩⟩⟩⟩⟩
      · have:=of_decide_eq_true c5
        exact bad 2 (by decide) (by unfold banE; rw [if_neg (by omega),if_pos (by omega)])
      · have:=of_decide_eq_true c6
        exact bad 2 (by decide) (by unfold banE; rw [if_neg (by omega),if_pos (by omega)])
      · have:=of_decide_eq_true c7
        exact bad 2 (by decide) (by unfold banE; rw [if_neg (by omega),if_pos (by omega)])
      · have:=of_decide_eq_true c8
        exact bad 2 (by decide) (by unfold banE; rw [if_neg (by omega),if_pos (by omega)])
      · have:=of_decide_eq_true c9
        exact bad 2 (by decide) (by unfold banE; rw [if_neg (by omega),if_pos (by omega)])
      · have:=of_decide_eq_true c10
        exact bad 2 (by decide) (by unfold banE; rw [if_neg (by omega),if_pos (by omega)])
      · have d5:=of_decide_eq_false c5
        have d6:=of_decide_eq_false c6
        have d7:=of_decide_eq_false c7
        have d8:=of_decide_eq_false c8
        have d9:=of_decide_eq_false c9
        have d10:=of_decide_eq_false c10
        have hb:banE ps b = 0:=by unfold banE; rw [if_neg (by omega),if_neg (by omega)]
        rw [hb,if_neg (by decide)] at hQ
        exact ⟨⟨⟨rfl,by omega,by omega,h2⟩,hm⟩,hQ⟩
    · simp only [decide_eq_false_iff_not] at c1
      rw [drop_end c1,banEs_nil] at hQ
      exact hQ.1 rfl
theorem T_Check (s0_0:List Int) (s0_1:List (Int × (Int × (Int × V)))):fnTree (P:=P) [c_ixPC.gc] (lpOf [(1,R_Check)]) Try.f32 (encL 0 [.agg (.pair tIs (.sl (.pair tI (.pair tI (.pair tI tV)))))] ((s0_0,s0_1),())) =
  Tree.cond (decide ((s0_0.length:Int) < (2:Int))) (.leaf (SV.int IntKind.i64 (6:Int))) (.cond (decide ((s0_0.length:Int) > (4:Int))) (.leaf (SV.int IntKind.i64 (8:Int))) (.need ((s0_0.length:Int) < (2:Int) ^ (62:Nat)) (.cond (List.any s0_0 badP) (.leaf (SV.int IntKind.i64 (2:Int))) (.cond (decide ((s0_1.length:Int) > (24:Int))) (.leaf (SV.int IntKind.i64 (8:Int))) (.need (inv_Check ((),s0_1,(s0_1.length:Int),(0:Int),s0_0,s0_1,())) (.cond (decide (banEs s0_0 (List.drop (Int.toNat (0:Int)) s0_1) = (0:Int))) (.leaf (SV.int IntKind.i64 (0:Int))) (.leaf (SV.int IntKind.i64 (banEs s0_0 (List.drop (Int.toNat (0:Int)) s0_1)))))))))):=by kernel_rfl
def c_Check:PC P:=PC.of (α:=(List Int × List (Int × (Int × (Int × V)))) × Unit) 32 [.agg (.pair tIs (.sl (.pair tI (.pair tI (.pair tI tV)))))] (fun x => x) (fun x => x) (fun _ => rfl)
  (fun _ => none)
  (fun x => .int .i64 (checkS x.1)) (by kernel_rfl) (by
    rintro ⟨⟨s0_0,s0_1⟩,⟨⟩⟩ hp
    refine fn_of hm (by kernel_rfl) (by kernel_rfl) (T_Check s0_0 s0_1) ⟨K_Check,trivial⟩ ?_
    try dsimp only at hp
    try dsimp only
    refine ⟨fun c1 => ?_,fun c1 => ⟨fun c2 => ?_,fun c2 => ⟨?_,fun c3 => ?_,fun c3 => ⟨fun c4 => ?_,fun c4 => ⟨?_,fun c5 => ?_,fun c5 => ?_⟩⟩⟩⟩⟩
    · have d1:=of_decide_eq_true c1
      exact congrArg (SV.int .i64) (by unfold checkS; rw [if_pos d1])
    · have d1:=of_decide_eq_false c1
      have d2:=of_decide_eq_true c2
      exact congrArg (SV.int .i64) (by unfold checkS; rw [if_neg d1,if_pos d2])
    · have d2:=of_decide_eq_false c2
      omega
    · have d1:=of_decide_eq_false c1
      have d2:=of_decide_eq_false c2
      exact congrArg (SV.int .i64) (by unfold checkS; rw [if_neg d1,if_neg d2,if_pos c3])
    · have d1:=of_decide_eq_false c1
      have d2:=of_decide_eq_false c2
      have d4:=of_decide_eq_true c4
      exact congrArg (SV.int .i64) (by unfold checkS; rw [if_neg d1,if_neg d2,if_neg (by rw [c3]; simp),if_pos d4])
    · have d4:=of_decide_eq_false c4
      exact ⟨rfl,by decide,by omega,by omega⟩
    · have d1:=of_decide_eq_false c1
      have d2:=of_decide_eq_false c2
      have d4:=of_decide_eq_false c4
      have d5:banEs s0_0 s0_1 = 0:=of_decide_eq_true c5
      exact congrArg (SV.int .i64) (by unfold checkS; rw [if_neg d1,if_neg d2,if_neg (by rw [c3]; simp),if_neg d4]; exact d5.symm)
    · have d1:=of_decide_eq_false c1
      have d2:=of_decide_eq_false c2
      have d4:=of_decide_eq_false c4
      exact congrArg (SV.int .i64) (by unfold checkS; rw [if_neg d1,if_neg d2,if_neg (by rw [c3]; simp),if_neg d4]; rfl))
theorem banE_ok {ps:List Int} {b:Ban} (h:banE ps b = 0):okB ps.length b:=by
  unfold banE at h
  split at h
  · simp at h
  · rename_i h1
    exact ⟨by omega,by omega,by omega,by omega⟩
theorem banEs_all {ps:List Int}:∀ {l:List Ban},banEs ps l = 0 → ∀ b ∈ l,okB ps.length b
  | [],_,b,hb => by cases hb
  | a :: l,h,b,hb => by
    rw [banEs] at h
    split at h
    · rename_i h1; exact absurd h h1
    · rename_i h1
      rcases List.mem_cons.1 hb with rfl | hb
      · exact banE_ok (by simpa using h1)
      · exact banEs_all h b hb
theorem checkS_ok {r:Rig} (h:checkS r = 0):2 ≤ r.1.length ∧ r.1.length ≤ 4 ∧ r.1.any badP = false ∧ r.2.length ≤ 24 ∧ banEs r.1 r.2 = 0:=by
  unfold checkS at h
  split at h
  · simp at h
  split at h
  · simp at h
  split at h
  · simp at h
  split at h
  · simp at h
  rename_i h1 h2 h3 h4
  exact ⟨by omega,by omega,by simpa using h3,by omega,h⟩
def inR:List Int → List Int → Bool
  | p :: s,q :: ps => (decide (0 ≤ p) && decide (p < q)) && inR s ps
  | _,_ => true
theorem inR_nil (ps:List Int):inR [] ps = true:=by unfold inR; rfl
theorem inR_step {s ps:List Int} {i:Int} (h0:0 ≤ i) (h:i < s.length) (h2:i < ps.length):inR (s.drop i.toNat) (ps.drop i.toNat) = ((decide (0 ≤ s.getD i.toNat 0) && decide (s.getD i.toNat 0 < ps.getD i.toNat 0)) && inR (s.drop (i + 1).toNat) (ps.drop (i + 1).toNat)):=by
  rw [drop_step (0:Int) h0 h,drop_step (0:Int) h0 h2,inR]
def stateS (r:Rig) (s:List Int):Int :=
  if checkS r ≠ 0 then checkS r
  else if s.length ≠ r.1.length then 3
  else if inR s r.1 = false then 2
  else if ixS (banS (stillS s)) r.2 ≥ 0 then 12
  else 0
def L_State:Lay:={ slots:=[(1,.val tIs),(2,.ptr 3043 0),(19,.val tIs),(20,.val tI),(21,.val tI)],boxes:=[(3043,[.val tIs,.val (.sl (.pair tI (.pair tI (.pair tI tV))))])] }
def L_State_0:Lay:={ slots:=[(4,.val tI)] }
def L_State_1:Lay:={ slots:=[(1,.val tIs),(2,.ptr 3043 0)],boxes:=[(3043,[.val tIs,.val (.sl (.pair tI (.pair tI (.pair tI tV))))])] }
def X_State:Exit → St → Option Lay
  | .ret,_ => some L_State_0
  | .exit 0,_ => some L_State_1
  | _,_ => none
abbrev C_State:Code:=loopC (bodyOf Try.f13) 0
theorem B_State (s1 l:List Int) (n i:Int) (ps:List Int) (bs:List (Int × (Int × (Int × V)))):loopBodyA (P:=P) [] (lpOf []) [] 43 noU (inner C_State) L_State X_State (α:=List Int × Unit × List Int × Int × Int × List Int × List (Int × (Int × (Int × V))) × Unit) (fun x => x) (fun x => x) (s1,(),l,n,i,ps,bs,()) =
  Tree.cond (decide (i < n)) (.need ((0:Int) ≤ i ∧ i < (l.length:Int)) (.cond (decide (List.getD l (Int.toNat i) (0:Int) < (0:Int))) (.leaf (Sum.inr (Exit.ret,Lay.st L_State_0 noU ((2:Int),())))) (.need ((0:Int) ≤ i ∧ i < (ps.length:Int)) (.cond (decide (List.getD l (Int.toNat i) (0:Int) ≥ List.getD ps (Int.toNat i) (0:Int))) (.leaf (Sum.inr (Exit.ret,Lay.st L_State_0 noU ((2:Int),())))) (.leaf (Sum.inl (s1,(),l,n,IntKind.i64.wrap (i + (1:Int)),ps,bs,()))))))) (.leaf (Sum.inr (Exit.exit (0:Nat),Lay.st L_State_1 noU (s1,(),ps,bs,())))):=by kernel_rfl
def inv_State:List Int × Unit × List Int × Int × Int × List Int × List (Int × (Int × (Int × V))) × Unit → Prop:=fun (s1,(),l,n,i,ps,bs,()) => n = l.length ∧ 0 ≤ i ∧ i ≤ n ∧ (l.length:Int) ≤ 1000 ∧ l.length ≤ ps.length
def O_State:List Int × Unit × List Int × Int × Int × List Int × List (Int × (Int × (Int × V))) × Unit → Tree (Exit × St):=fun (s1,(),l,n,i,ps,bs,()) => .cond (inR (l.drop i.toNat) (ps.drop i.toNat)) (.leaf (.exit 0,L_State_1.st noU (s1,(),ps,bs,()))) (.leaf (.ret,L_State_0.st noU (((2:Int)),())))
def R_State:LRun:=runOf 43 L_State (fun x => x) (inv_State) (O_State)
theorem K_State:LoopOk P [] 43 none noU C_State (R_State):=by
  refine loop_of hm (cx:=[]) [] (xl:=X_State) (α:=List Int × Unit × List Int × Int × Int × List Int × List (Int × (Int × (Int × V))) × Unit) (fun x => x) (fun (s1,(),l,n,i,ps,bs,()) => (n - i).toNat) (fun _ => rfl) (by kernel_rfl) (by kernel_rfl) ?_ (by kernel_rfl) trivial ?_
  · intro e S L' h
    unfold X_State at h
    split at h <;> first | (cases h; done) | (cases h; kernel_rfl) | (rcases bif_some h with h | h <;> cases h <;> kernel_rfl)
  · rintro ⟨s1,⟨⟩,l,n,i,ps,bs,⟨⟩⟩ hinv Q hQ
    refine hold_of_eq (B_State s1 l n i ps bs) ?_
    obtain ⟨rfl,h0,h1,h2,h3⟩:=hinv
    rw [W_id (n:=i + 1) (by omega) (by omega)]
    unfold O_State at hQ
    dsimp only at hQ
    refine ⟨fun c1 => ?_,fun c1 => ?_⟩
    · simp only [decide_eq_true_eq] at c1
      have hm:((l.length:Int) - (i + 1)).toNat < ((l.length:Int) - i).toNat:=by omega
      have b1:i < ps.length:=by omega
      rw [inR_step h0 c1 b1] at hQ
      generalize l.getD i.toNat 0 = p at *
      generalize ps.getD i.toNat 0 = q at *
      refine ⟨⟨h0,c1⟩,fun c2 => ?_,fun c2 => ⟨⟨h0,b1⟩,fun c3 => ?_,fun c3 => ?_⟩⟩
      · have d2:=of_decide_eq_true c2
        rw [decide_eq_false (show ¬ (0:Int) ≤ p by omega),Bool.false_and,Bool.false_and] at hQ
        exact hQ.2 rfl
      · have d3:=of_decide_eq_true c3
        rw [decide_eq_false (show ¬ p < q by omega),Bool.and_false,Bool.false_and] at hQ
        exact hQ.2 rfl
      · have d2:=of_decide_eq_false c2
        have d3:=of_decide_eq_false c3
        rw [decide_eq_true (show (0:Int) ≤ p by omega),decide_eq_true (show p < q by omega),Bool.true_and,Bool.true_and] at hQ
        exact ⟨⟨⟨rfl,by omega,by omega,h2,h3⟩,hm⟩,hQ⟩
    · simp only [decide_eq_false_iff_not] at c1
      rw [drop_end c1,inR_nil] at hQ
      exact hQ.1 rfl
theorem T_State (s0_0:List Int) (s0_1:List (Int × (Int × (Int × V)))) (s1:List Int):fnTree (P:=P) [c_Check.gc,c_still.gc,c_bans.gc] (lpOf [(0,R_State)]) Try.f13 (encL 0 [.agg (.pair tIs (.sl (.pair tI (.pair tI (.pair tI tV))))),.val tIs] ((s0_0,s0_1),s1,())) =
  Tree.cond (checkS (s0_0,s0_1) != (0:Int)) (.leaf (SV.int IntKind.i64 (checkS (s0_0,s0_1)))) (.cond ((s1.length:Int) != (s0_0.length:Int)) (.leaf (SV.int IntKind.i64 (3:Int))) (.need (inv_State (s1,(),s1,(s1.length:Int),(0:Int),s0_0,s0_1,())) (.cond (inR (List.drop (Int.toNat (0:Int)) s1) (List.drop (Int.toNat (0:Int)) s0_0)) (.need (List.length s1 ≤ (1000:Nat)) (.need ((s0_1.length:Int) < (2:Int) ^ (62:Nat) ∧ ∀ (b:Ban),b ∈ s0_1 → okB (List.length (stillS s1)) b) (.cond (decide (ixS (banS (stillS s1)) s0_1 ≥ (0:Int))) (.leaf (SV.int IntKind.i64 (12:Int))) (.leaf (SV.int IntKind.i64 (0:Int)))))) (.leaf (SV.int IntKind.i64 (2:Int)))))):=by kernel_rfl
def c_State:PC P:=PC.of (α:=(List Int × List (Int × (Int × (Int × V)))) × List Int × Unit) 13 [.agg (.pair tIs (.sl (.pair tI (.pair tI (.pair tI tV))))),.val tIs] (fun x => x) (fun x => x) (fun _ => rfl)
  (fun _ => none)
  (fun x => .int .i64 (stateS x.1 x.2.1)) (by kernel_rfl) (by
    rintro ⟨⟨s0_0,s0_1⟩,s1,⟨⟩⟩ hp
    refine fn_of hm (by kernel_rfl) (by kernel_rfl) (T_State s0_0 s0_1 s1) ⟨K_State,trivial⟩ ?_
    try dsimp only at hp
    try dsimp only
    refine ⟨fun c1 => ?_,fun c1 => ⟨fun c2 => ?_,fun c2 => ⟨?_,fun c3 => ⟨?_,?_,fun c4 => ?_,fun c4 => ?_⟩,fun c3 => ?_⟩⟩⟩
    · have d1:checkS (s0_0,s0_1) ≠ 0:=by simpa using c1
      exact congrArg (SV.int .i64) (by unfold stateS; rw [if_pos d1])
    · have d1:checkS (s0_0,s0_1) = 0:=by simpa using c1
      have d2:s1.length ≠ s0_0.length:=by have:=c2; simp only [bne_iff_ne,ne_eq] at this; omega
      exact congrArg (SV.int .i64) (by unfold stateS; rw [if_neg (by rw [d1]; simp),if_pos d2])
    all_goals
      have d1:checkS (s0_0,s0_1) = 0:=by simpa using c1
      have d2:s1.length = s0_0.length:=by have:=c2; simp only [bne_eq_false_iff_eq] at this; omega
      obtain ⟨k1,k2,k3,k4,k5⟩:=checkS_ok d1
      dsimp only at k1 k2 k3 k4 k5
    · exact ⟨rfl,by decide,by omega,by omega,by omega⟩
    · omega
    · exact ⟨by omega,fun b hb => by rw [stillS_len,d2]; exact banEs_all k5 b hb⟩
    · have d3:inR s1 s0_0 = true:=c3
      have d4:=of_decide_eq_true c4
      exact congrArg (SV.int .i64) (by unfold stateS; rw [if_neg (by rw [d1]; simp),if_neg (by rw [d2]; simp),if_neg (by rw [d3]; simp),if_pos d4])
    · have d3:inR s1 s0_0 = true:=c3
      have d4:=of_decide_eq_false c4
      exact congrArg (SV.int .i64) (by unfold stateS; rw [if_neg (by rw [d1]; simp),if_neg (by rw [d2]; simp),if_neg (by rw [d3]; simp),if_neg d4])
    · have d3:inR s1 s0_0 = false:=c3
      exact congrArg (SV.int .i64) (by unfold stateS; rw [if_neg (by rw [d1]; simp),if_neg (by rw [d2]; simp),if_pos d3]))
end
end Go.MR
