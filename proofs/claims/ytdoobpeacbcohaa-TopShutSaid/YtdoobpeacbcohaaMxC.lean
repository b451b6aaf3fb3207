/- Rigs: moves, what is allowed. -/
import Derived.Test.YtdoobpeacbcohaaMxB
namespace Go.MR
open Go Go.Sx Go.Proofs
set_option linter.unusedVariables false
set_option linter.unusedSimpArgs false
noncomputable section
def moveS (r:Rig) (m:List Int):Bool:=decide ((m.length:Int) = r.1.length) && !m.any badM
theorem T_move (s0_0:List Int) (s0_1:List (Int × (Int × (Int × V)))) (s1:List Int):fnTree (P:=P) [c_ixMC.gc] (lpOf []) Try.f27 (encL 0 [.agg (.pair tIs (.sl (.pair tI (.pair tI (.pair tI tV))))),.val tIs] ((s0_0,s0_1),s1,())) =
  Tree.cond ((s1.length:Int) == (s0_0.length:Int)) (.need ((s1.length:Int) < (2:Int) ^ (62:Nat)) (.leaf (SV.bool !List.any s1 badM))) (.leaf (SV.bool false)):=by kernel_rfl
def c_move:PC P:=PC.of (α:=(List Int × List (Int × (Int × (Int × V)))) × List Int × Unit) 27 [.agg (.pair tIs (.sl (.pair tI (.pair tI (.pair tI tV))))),.val tIs] (fun x => x) (fun x => x) (fun _ => rfl)
  (fun x => some ((x.2.1.length:Int) < 2 ^ 62))
  (fun x => .bool (moveS x.1 x.2.1)) (by kernel_rfl) (by
    rintro ⟨⟨s0_0,s0_1⟩,s1,⟨⟩⟩ hp
    refine fn_of hm (by kernel_rfl) (by kernel_rfl) (T_move s0_0 s0_1 s1) trivial ?_
    try dsimp only at hp
    try dsimp only
    have hp' : (s1.length:Int) < 2 ^ 62:=hp
    refine ⟨fun c1 => ⟨hp',?_⟩,fun c1 => ?_⟩
    · have e:moveS (s0_0,s0_1) s1 = !s1.any badM:=by unfold moveS; rw [decide_eq_true (show (s1.length:Int) = s0_0.length by simpa using c1),Bool.true_and]
      exact congrArg SV.bool e.symm
    · have e:moveS (s0_0,s0_1) s1 = false:=by unfold moveS; rw [decide_eq_false (show ¬ (s1.length:Int) = s0_0.length by simpa using c1),Bool.false_and]
      exact congrArg SV.bool e.symm)
def allowS (r:Rig) (s m:List Int):Bool × Int :=
  if stateS r s ≠ 0 ∨ moveS r m = false then (false,-1)
  else if (waysS s m r.1).2 = false then (false,-1)
  else (decide (ixS (banS (waysS s m r.1).1) r.2 < 0),ixS (banS (waysS s m r.1).1) r.2)
theorem banE_rng (ps:List Int) (b:Ban):banE ps b = 11 ∨ banE ps b = 2 ∨ banE ps b = 0:=by
  unfold banE
  split
  · exact .inl rfl
  · split
    · exact .inr (.inl rfl)
    · exact .inr (.inr rfl)
theorem banEs_rng (ps:List Int):∀ l:List Ban,banEs ps l = 11 ∨ banEs ps l = 2 ∨ banEs ps l = 0
  | [] => .inr (.inr rfl)
  | b :: l => by
    rw [banEs]
    split
    · exact banE_rng ps b
    · exact banEs_rng ps l
theorem checkS_12 (r:Rig):checkS r ≠ 12:=by
  unfold checkS
  have:=banEs_rng r.1 r.2
  split
  · decide
  split
  · decide
  split
  · decide
  split
  · decide
  omega
theorem stateS_in {r:Rig} {s:List Int} (h:stateS r s = 0 ∨ stateS r s = 12):checkS r = 0 ∧ s.length = r.1.length ∧ inR s r.1 = true:=by
  have h12:=checkS_12 r
  unfold stateS at h
  split at h
  · omega
  split at h
  · omega
  split at h
  · omega
  rename_i h1 h2 h3
  exact ⟨by omega,by omega,by simpa using h3⟩
theorem moveS_len {r:Rig} {m:List Int} (h:moveS r m = true):m.length = r.1.length:=by
  unfold moveS at h
  simp only [Bool.and_eq_true,decide_eq_true_eq] at h
  omega
theorem wayL_len:∀ {s m:List Int},s.length ≤ m.length → (wayL s m).length = s.length
  | [],m,_ => by rw [wayL_nil]; rfl
  | p :: s,[],h => by simp at h
  | p :: s,x :: m,h => by
    rw [wayL,List.length_cons,List.length_cons,wayL_len (by simpa using h)]
theorem waysS_len {s m ps:List Int} (h:(waysS s m ps).2 = true) (hl:s.length ≤ m.length):(waysS s m ps).1.length = s.length:=by
  unfold waysS at h ⊢
  split
  · exact wayL_len hl
  · rename_i h1
    rw [if_neg h1] at h
    cases h
theorem T_Allowed (s0_0:List Int) (s0_1:List (Int × (Int × (Int × V)))) (s1 s2:List Int):fnTree (P:=P) [c_State.gc,c_move.gc,c_ways.gc,c_bans.gc] (lpOf []) Try.f28 (encL 0 [.agg (.pair tIs (.sl (.pair tI (.pair tI (.pair tI tV))))),.val tIs,.val tIs] ((s0_0,s0_1),s1,s2,())) =
  Tree.cond (stateS (s0_0,s0_1) s1 != (0:Int)) (.leaf (SV.tup [SV.bool false,SV.int IntKind.i64 (-1:Int)])) (.need ((s2.length:Int) < (2:Int) ^ (62:Nat)) (.cond (!moveS (s0_0,s0_1) s2) (.leaf (SV.tup [SV.bool false,SV.int IntKind.i64 (-1:Int)])) (.need (List.length s1 ≤ (1000:Nat) ∧ List.length s1 ≤ List.length s2 ∧ List.length s1 ≤ List.length s0_0) (.cond (!(waysS s1 s2 s0_0).snd) (.leaf (SV.tup [SV.bool false,SV.int IntKind.i64 (-1:Int)])) (.need ((s0_1.length:Int) < (2:Int) ^ (62:Nat) ∧ ∀ (b:Ban),b ∈ s0_1 → okB (List.length (waysS s1 s2 s0_0).fst) b) (.leaf (SV.tup [SV.bool (decide (ixS (banS (waysS s1 s2 s0_0).fst) s0_1 < (0:Int))),SV.int IntKind.i64 (ixS (banS (waysS s1 s2 s0_0).fst) s0_1)]))))))):=by kernel_rfl
def c_Allowed:PC P:=PC.of (α:=(List Int × List (Int × (Int × (Int × V)))) × List Int × List Int × Unit) 28 [.agg (.pair tIs (.sl (.pair tI (.pair tI (.pair tI tV))))),.val tIs,.val tIs] (fun x => x) (fun x => x) (fun _ => rfl)
  (fun x => some ((x.2.2.1.length:Int) < 2 ^ 62))
  (fun x => .tup [.bool (allowS x.1 x.2.1 x.2.2.1).1,.int .i64 (allowS x.1 x.2.1 x.2.2.1).2]) (by kernel_rfl) (by
    rintro ⟨⟨s0_0,s0_1⟩,s1,s2,⟨⟩⟩ hp
    refine fn_of hm (by kernel_rfl) (by kernel_rfl) (T_Allowed s0_0 s0_1 s1 s2) trivial ?_
    try dsimp only at hp
    try dsimp only
    have hp' : (s2.length:Int) < 2 ^ 62:=hp
    have fin:∀ k:Bool × Int,allowS (s0_0,s0_1) s1 s2 = k → SV.tup [.bool k.1,.int .i64 k.2] = SV.tup [.bool (allowS (s0_0,s0_1) s1 s2).1,.int .i64 (allowS (s0_0,s0_1) s1 s2).2]:=fun k h => by rw [h]
    refine ⟨fun c1 => ?_,fun c1 => ⟨hp',fun c2 => ?_,fun c2 => ?_⟩⟩
    · have d1:stateS (s0_0,s0_1) s1 ≠ 0:=by simpa using c1
      exact fin (false,-1) (by unfold allowS; rw [if_pos (.inl d1)])
    · have d2:moveS (s0_0,s0_1) s2 = false:=by simpa using c2
      exact fin (false,-1) (by unfold allowS; rw [if_pos (.inr d2)])
    have d1:stateS (s0_0,s0_1) s1 = 0:=by simpa using c1
    have d2:moveS (s0_0,s0_1) s2 = true:=by simpa using c2
    obtain ⟨a1,a2,a3⟩:=stateS_in (.inl d1)
    obtain ⟨k1,k2,k3,k4,k5⟩:=checkS_ok a1
    have b1:=moveS_len d2
    dsimp only at a2 k1 k2 k3 k4 k5 b1
    have hn:¬ (stateS (s0_0,s0_1) s1 ≠ 0 ∨ moveS (s0_0,s0_1) s2 = false):=by rw [d1,d2]; simp
    refine ⟨⟨by omega,by omega,by omega⟩,fun c3 => ?_,fun c3 => ⟨⟨by omega,?_⟩,?_⟩⟩
    · have d3:(waysS s1 s2 s0_0).2 = false:=by simpa using c3
      exact fin (false,-1) (by unfold allowS; rw [if_neg hn,if_pos d3])
    · have d3:(waysS s1 s2 s0_0).2 = true:=by simpa using c3
      intro b hb
      rw [waysS_len d3 (by omega),a2]
      exact banEs_all k5 b hb
    · have d3:(waysS s1 s2 s0_0).2 = true:=by simpa using c3
      exact fin (decide (ixS (banS (waysS s1 s2 s0_0).1) s0_1 < 0),ixS (banS (waysS s1 s2 s0_0).1) s0_1) (by unfold allowS; rw [if_neg hn,if_neg (by rw [d3]; simp)]))
end
end Go.MR
