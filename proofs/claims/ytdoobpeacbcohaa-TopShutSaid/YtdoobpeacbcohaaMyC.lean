/- TopShut: its loop. -/
import Derived.Test.YtdoobpeacbcohaaMyA
import Derived.Test.YtdoobpeacbcohaaMyB
namespace Go.MR
open Go Go.Sx Go.Proofs
open Go.MP (c_tawake c_TCheck c_Near nearS checkT tT tTs Tb)
set_option linter.unusedVariables false
set_option linter.unusedSimpArgs false
noncomputable section
def L_tshut:Lay:={ slots:=[(6,.val tI),(7,.val tI),(18,.ptr 19207 0),(20,.ptr 21207 0),(23,.ptr 24207 0),(24,.val (.sl tPart)),(25,.val tIs),(26,.val tI),(30,.val tI),(31,.val tI)],boxes:=[(19207,[.val tTs]),(21207,[.val tI,.val tI,.val tI]),(24207,[.val tIs,.val (.sl (.pair tI (.pair tI (.pair tI tV))))])] }
def L_tshut_0:Lay:={ slots:=[(16,.val .bool)] }
def L_tshut_1:Lay:={ slots:=[(18,.ptr 19207 0),(20,.ptr 21207 0),(25,.val tIs)],boxes:=[(19207,[.val tTs]),(21207,[.val tI,.val tI,.val tI])] }
def X_tshut:Exit → St → Option Lay
  | .ret,_ => some L_tshut_0
  | .exit 0,_ => some L_tshut_1
  | _,_ => none
abbrev C_tshut:Code:=loopC (bodyOf Try.f3) 0
theorem B_tshut (wh who:Int) (goal:List (Int × Int)) (st:List Int) (n left tick:Int) (tubes:List Tb) (f sp nr:Int) (ps:List Int) (bans:List (Int × (Int × (Int × V)))):loopBodyA (P:=P) [c_State.gc,c_Next.gc,c_Step.gc,c_Mod.gc] (lpOf []) [] 207 noU (inner C_tshut) L_tshut X_tshut (α:=Int × Int × Unit × Unit × Unit × List (Int × Int) × List Int × Int × Int × Int × List Tb × Int × Int × Int × List Int × List (Int × (Int × (Int × V))) × Unit) (fun x => x) (fun x => x) (wh,who,(),(),(),goal,st,n,left,tick,tubes,f,sp,nr,ps,bans,()) =
  Tree.cond (decide (tick < n)) (.need ((0:Int) ≤ (1:Int) ∧ (1:Int) < (st.length:Int)) (.cond (List.getD st (Int.toNat (1:Int)) (0:Int) != (2:Int)) (.cond ((nextS (ps,bans) st goal left).snd != (0:Int)) (.leaf (Sum.inr (Exit.ret,Lay.st L_tshut_0 noU (false,())))) (.cond (tick == wh) (.cond (decide (left > (0:Int))) (.need ((0:Int) < (2:Int) ∧ R64 (2:Int)) (.need ((↑(List.length (nextS (ps,bans) st goal left).fst):Int) < (2:Int) ^ (62:Nat) ∧ (↑(List.length [who % (2:Int)]):Int) < (2:Int) ^ (62:Nat)) (.cond ((stepS (ps,bans) st (nextS (ps,bans) st goal left).fst [who % (2:Int)]).snd != (0:Int)) (.leaf (Sum.inr (Exit.ret,Lay.st L_tshut_0 noU (false,())))) (.cond ((↑(List.length (stepS (ps,bans) st (nextS (ps,bans) st goal left).fst [who % (2:Int)]).fst):Int) != (2:Int)) (.leaf (Sum.inr (Exit.ret,Lay.st L_tshut_0 noU (false,())))) (.cond (stateS (ps,bans) (stepS (ps,bans) st (nextS (ps,bans) st goal left).fst [who % (2:Int)]).fst != (0:Int)) (.leaf (Sum.inr (Exit.ret,Lay.st L_tshut_0 noU (false,())))) (.leaf (Sum.inl (wh,who,(),(),(),goal,(stepS (ps,bans) st (nextS (ps,bans) st goal left).fst [who % (2:Int)]).fst,n,(0:Int),IntKind.i64.wrap (tick + (1:Int)),tubes,f,sp,nr,ps,bans,())))))))) (.need ((↑(List.length (nextS (ps,bans) st goal left).fst):Int) < (2:Int) ^ (62:Nat) ∧ (↑(0:Nat):Int) < (2:Int) ^ (62:Nat)) (.cond ((stepS (ps,bans) st (nextS (ps,bans) st goal left).fst []).snd != (0:Int)) (.leaf (Sum.inr (Exit.ret,Lay.st L_tshut_0 noU (false,())))) (.cond ((↑(List.length (stepS (ps,bans) st (nextS (ps,bans) st goal left).fst []).fst):Int) != (2:Int)) (.leaf (Sum.inr (Exit.ret,Lay.st L_tshut_0 noU (false,())))) (.cond (stateS (ps,bans) (stepS (ps,bans) st (nextS (ps,bans) st goal left).fst []).fst != (0:Int)) (.leaf (Sum.inr (Exit.ret,Lay.st L_tshut_0 noU (false,())))) (.leaf (Sum.inl (wh,who,(),(),(),goal,(stepS (ps,bans) st (nextS (ps,bans) st goal left).fst []).fst,n,left,IntKind.i64.wrap (tick + (1:Int)),tubes,f,sp,nr,ps,bans,())))))))) (.need ((↑(List.length (nextS (ps,bans) st goal left).fst):Int) < (2:Int) ^ (62:Nat) ∧ (↑(0:Nat):Int) < (2:Int) ^ (62:Nat)) (.cond ((stepS (ps,bans) st (nextS (ps,bans) st goal left).fst []).snd != (0:Int)) (.leaf (Sum.inr (Exit.ret,Lay.st L_tshut_0 noU (false,())))) (.cond ((↑(List.length (stepS (ps,bans) st (nextS (ps,bans) st goal left).fst []).fst):Int) != (2:Int)) (.leaf (Sum.inr (Exit.ret,Lay.st L_tshut_0 noU (false,())))) (.cond (stateS (ps,bans) (stepS (ps,bans) st (nextS (ps,bans) st goal left).fst []).fst != (0:Int)) (.leaf (Sum.inr (Exit.ret,Lay.st L_tshut_0 noU (false,())))) (.leaf (Sum.inl (wh,who,(),(),(),goal,(stepS (ps,bans) st (nextS (ps,bans) st goal left).fst []).fst,n,left,IntKind.i64.wrap (tick + (1:Int)),tubes,f,sp,nr,ps,bans,()))))))))) (.leaf (Sum.inr (Exit.exit (0:Nat),Lay.st L_tshut_1 noU ((),(),st,tubes,f,sp,nr,())))))) (.leaf (Sum.inr (Exit.exit (0:Nat),Lay.st L_tshut_1 noU ((),(),st,tubes,f,sp,nr,())))):=by kernel_rfl
def inv_tshut:Int × Int × Unit × Unit × Unit × List (Int × Int) × List Int × Int × Int × Int × List Tb × Int × Int × Int × List Int × List (Int × (Int × (Int × V))) × Unit → Prop:=fun (wh,who,(),(),(),goal,st,n,left,tick,tubes,f,sp,nr,ps,bans,()) => 0 ≤ tick ∧ tick ≤ n ∧ n ≤ 64 ∧ (left = 0 ∨ left = 1) ∧ ps = [8,3] ∧ goal = gT ∧ goalS (ps,bans) gT = 0 ∧ Sf (ps,bans) st ∧ reD ps bans gT (n - tick).toNat left.toNat st = true
def O_tshut:Int × Int × Unit × Unit × Unit × List (Int × Int) × List Int × Int × Int × Int × List Tb × Int × Int × Int × List Int × List (Int × (Int × (Int × V))) × Unit → Tree (Exit × St):=fun (wh,who,(),(),(),goal,st,n,left,tick,tubes,f,sp,nr,ps,bans,()) => (.leaf (.exit 0,L_tshut_1.st noU ((),(),(shR (ps,bans) gT wh (who % 2) (n - tick).toNat tick st left),tubes,f,sp,nr,())))
def R_tshut:LRun:=runOf 207 L_tshut (fun x => x) (inv_tshut) (O_tshut)
theorem K_tshut:LoopOk P [] 207 none noU C_tshut (R_tshut):=by
  refine loop_of hm (cx:=[c_State.gc,c_Next.gc,c_Step.gc,c_Mod.gc]) [] (xl:=X_tshut) (α:=Int × Int × Unit × Unit × Unit × List (Int × Int) × List Int × Int × Int × Int × List Tb × Int × Int × Int × List Int × List (Int × (Int × (Int × V))) × Unit) (fun x => x) (fun (wh,who,(),(),(),goal,st,n,left,tick,tubes,f,sp,nr,ps,bans,()) => (n - tick).toNat) (fun _ => rfl) (by kernel_rfl) (by kernel_rfl) ?_ (by kernel_rfl) trivial ?_
  · intro e S L' h
    unfold X_tshut at h
    split at h <;> first | (cases h; done) | (cases h; kernel_rfl) | (rcases bif_some h with h | h <;> cases h <;> kernel_rfl)
  · rintro ⟨wh,who,⟨⟩,⟨⟩,⟨⟩,goal,st,n,left,tick,tubes,f,sp,nr,ps,bans,⟨⟩⟩ hinv Q hQ
    refine hold_of_eq (B_tshut wh who goal st n left tick tubes f sp nr ps bans) ?_
    obtain ⟨h0,h1,h2,hl,rfl,rfl,hg,hs,hre⟩:=hinv
    have hQ' : Q (.exit 0,L_tshut_1.st noU ((),(),shR ([8,3],bans) gT wh (who % 2) (n - tick).toNat tick st left,tubes,f,sp,nr,())):=hQ
    have sl:st.length = 2:=hs.vs.sl
    rw [W_id (n:=tick + 1) (by omega) (by omega)]
    refine ⟨fun c1 => ⟨⟨by omega,by omega⟩,fun c2 => ?_,fun c2 => ?_⟩,fun c1 => ?_⟩
    · have d1:tick < n:=of_decide_eq_true c1
      have d2:st.getD 1 0 ≠ 2:=by simpa using c2
      have hm:(n - (tick + 1)).toNat < (n - tick).toNat:=by omega
      have hno:inG st gT = false:=by rw [inG_gT hs rfl]; exact decide_eq_false d2
      obtain ⟨l,rfl⟩ : ∃ l:Nat,left = l:=⟨left.toNat,by omega⟩
      have e1:(n - tick).toNat = (n - (tick + 1)).toNat + 1:=by omega
      rw [e1,shR,if_neg d2] at hQ'
      rw [e1,Int.toNat_natCast] at hre
      have key:=fun (L:List Int) hL => rndT (L:=L) hs rfl hg (left:=l) (by omega) (d:=(n - (tick + 1)).toNat) (by omega) hre hno hL
      have hw:who % 2 = 0 ∨ who % 2 = 1:=by omega
      have nx:=(key [] (.inl rfl)).1
      refine ⟨fun c3 => ?_,fun c3 => ⟨fun c4 => ⟨fun c5 => ⟨⟨by decide,by decide,by decide⟩,?_⟩,fun c5 => ?_⟩,fun c4 => ?_⟩⟩
      · rw [nx] at c3; cases c3
      · have d4:tick = wh:=by simpa using c4
        have d5:(l:Int) > 0:=of_decide_eq_true c5
        obtain ⟨q1,q2,q3,q4,q5⟩:=key [who % 2] (.inr ⟨by omega,_,hw,rfl⟩)
        rw [if_neg (by simp)] at q5
        rw [show lossT tick wh l (who % 2) = [who % 2] from if_pos ⟨d4,d5⟩,show leftT tick wh l = 0 from if_pos ⟨d4,d5⟩] at hQ'
        have q6:=q4.vs.sl
        have q7:=q4.state
        rw [q3]
        refine ⟨⟨by rw [q2]; decide,?_⟩,⟨fun c6 => (by cases c6),fun c6 => ⟨fun c7 => ?_,fun c7 => ⟨fun c8 => ?_,fun c8 => ?_⟩⟩⟩⟩
        · first | decide | (show ((1:Nat):Int) < 2 ^ 62; decide)
        · dsimp only at c7; rw [q6] at c7; cases c7
        · dsimp only at c8; rw [q7] at c8; cases c8
        · exact ⟨⟨⟨by omega,by omega,h2,.inl rfl,rfl,rfl,hg,q4,q5⟩,hm⟩,hQ'⟩
      · have d5:¬ (tick = wh ∧ (l:Int) > 0):=fun h => of_decide_eq_false c5 h.2
        obtain ⟨q1,q2,q3,q4,q5⟩:=key [] (.inl rfl)
        rw [if_pos rfl] at q5
        rw [show lossT tick wh l (who % 2) = [] from if_neg d5,show leftT tick wh l = (l:Int) from if_neg d5] at hQ'
        have q6:=q4.vs.sl
        have q7:=q4.state
        rw [q3]
        refine ⟨⟨by rw [q2]; decide,?_⟩,⟨fun c6 => (by cases c6),fun c6 => ⟨fun c7 => ?_,fun c7 => ⟨fun c8 => ?_,fun c8 => ?_⟩⟩⟩⟩
        · first | decide | (show ((1:Nat):Int) < 2 ^ 62; decide)
        · dsimp only at c7; rw [q6] at c7; cases c7
        · dsimp only at c8; rw [q7] at c8; cases c8
        · exact ⟨⟨⟨by omega,by omega,h2,hl,rfl,rfl,hg,q4,q5⟩,hm⟩,hQ'⟩
      · have d5:¬ (tick = wh ∧ (l:Int) > 0):=fun h => by
          have:tick ≠ wh:=by simpa using c4
          exact this h.1
        obtain ⟨q1,q2,q3,q4,q5⟩:=key [] (.inl rfl)
        rw [if_pos rfl] at q5
        rw [show lossT tick wh l (who % 2) = [] from if_neg d5,show leftT tick wh l = (l:Int) from if_neg d5] at hQ'
        have q6:=q4.vs.sl
        have q7:=q4.state
        rw [q3]
        refine ⟨⟨by rw [q2]; decide,?_⟩,⟨fun c6 => (by cases c6),fun c6 => ⟨fun c7 => ?_,fun c7 => ⟨fun c8 => ?_,fun c8 => ?_⟩⟩⟩⟩
        · first | decide | (show ((1:Nat):Int) < 2 ^ 62; decide)
        · dsimp only at c7; rw [q6] at c7; cases c7
        · dsimp only at c8; rw [q7] at c8; cases c8
        · exact ⟨⟨⟨by omega,by omega,h2,hl,rfl,rfl,hg,q4,q5⟩,hm⟩,hQ'⟩
    · have d2:st.getD 1 0 = 2:=by simpa using c2
      have e3:shR ([8,3],bans) gT wh (who % 2) (n - tick).toNat tick st left = st:=by
        cases (n - tick).toNat with
        | zero => rfl
        | succ k => rw [shR,if_pos d2]
      rw [e3] at hQ'
      exact hQ'
    · have d1:¬ tick < n:=of_decide_eq_false c1
      rw [show (n - tick).toNat = 0 by omega,shR] at hQ'
      exact hQ'
end
end Go.MR
