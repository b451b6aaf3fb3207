/- Rigs: goals, ticks, the next move, readiness. -/
import Derived.Test.YtdoobpeacbcohaaMxL
namespace Go.MR
open Go Go.Sx Go.Proofs
set_option linter.unusedVariables false
set_option linter.unusedSimpArgs false
noncomputable section
def spanBad (p:Int) (g:Int × Int):Bool:=decide (g.1 < 0) || decide (g.1 > g.2) || decide (g.2 ≥ p)
def spansE:List Int → List (Int × Int) → Bool
  | p :: ps,g :: gs => spanBad p g || spansE ps gs
  | _,_ => false
theorem spansE_nil (ps:List Int):spansE ps [] = false:=by cases ps <;> rfl
theorem spansE_step {ps:List Int} {g:List (Int × Int)} {i:Int} (h0:0 ≤ i) (h:i < g.length) (h2:i < ps.length):spansE (ps.drop i.toNat) (g.drop i.toNat) = (spanBad (ps.getD i.toNat 0) (g.getD i.toNat (0,0)) || spansE (ps.drop (i + 1).toNat) (g.drop (i + 1).toNat)):=by
  rw [drop_step ((0,0):Int × Int) h0 h,drop_step (0:Int) h0 h2,spansE]
def goalS (r:Rig) (g:List (Int × Int)):Int :=
  if checkS r ≠ 0 then checkS r else if (g.length:Int) ≠ r.1.length then 3 else if spansE r.1 g = true then 2 else 0
def L_cg0:Lay:={ slots:=[(2,.ptr 3047 0),(19,.val (.sl tPart)),(20,.val tI),(21,.val tI)],boxes:=[(3047,[.val tIs,.val (.sl (.pair tI (.pair tI (.pair tI tV))))])] }
def L_cg0_0:Lay:={ slots:=[(4,.val tI)] }
def L_cg0_1:Lay:={ slots:=[] }
def X_cg0:Exit → St → Option Lay
  | .ret,_ => some L_cg0_0
  | .exit 0,_ => some L_cg0_1
  | _,_ => none
abbrev C_cg0:Code:=loopC (bodyOf Try.f22) 0
theorem B_cg0 (l:List (Int × Int)) (n i:Int) (ps:List Int) (bs:List (Int × (Int × (Int × V)))):loopBodyA (P:=P) [] (lpOf []) [] 47 noU (inner C_cg0) L_cg0 X_cg0 (α:=Unit × List (Int × Int) × Int × Int × List Int × List (Int × (Int × (Int × V))) × Unit) (fun x => x) (fun x => x) ((),l,n,i,ps,bs,()) =
  Tree.cond (decide (i < n)) (.need ((0:Int) ≤ i ∧ i < (l.length:Int)) (.cond (decide ((List.getD l (Int.toNat i) (0,0)).fst < (0:Int))) (.leaf (Sum.inr (Exit.ret,Lay.st L_cg0_0 noU ((2:Int),())))) (.cond (decide ((List.getD l (Int.toNat i) (0,0)).fst > (List.getD l (Int.toNat i) (0,0)).snd)) (.leaf (Sum.inr (Exit.ret,Lay.st L_cg0_0 noU ((2:Int),())))) (.need ((0:Int) ≤ i ∧ i < (ps.length:Int)) (.cond (decide ((List.getD l (Int.toNat i) (0,0)).snd ≥ List.getD ps (Int.toNat i) (0:Int))) (.leaf (Sum.inr (Exit.ret,Lay.st L_cg0_0 noU ((2:Int),())))) (.leaf (Sum.inl ((),l,n,IntKind.i64.wrap (i + (1:Int)),ps,bs,())))))))) (.leaf (Sum.inr (Exit.exit (0:Nat),Lay.st L_cg0_1 noU ()))):=by kernel_rfl
def inv_cg0:Unit × List (Int × Int) × Int × Int × List Int × List (Int × (Int × (Int × V))) × Unit → Prop:=fun ((),l,n,i,ps,bs,()) => n = l.length ∧ 0 ≤ i ∧ i ≤ n ∧ (l.length:Int) ≤ 1000 ∧ l.length ≤ ps.length
def O_cg0:Unit × List (Int × Int) × Int × Int × List Int × List (Int × (Int × (Int × V))) × Unit → Tree (Exit × St):=fun ((),l,n,i,ps,bs,()) => .cond (spansE (ps.drop i.toNat) (l.drop i.toNat)) (.leaf (.ret,L_cg0_0.st noU (((2:Int)),()))) (.leaf (.exit 0,L_cg0_1.st noU ()))
def R_cg0:LRun:=runOf 47 L_cg0 (fun x => x) (inv_cg0) (O_cg0)
theorem K_cg0:LoopOk P [] 47 none noU C_cg0 (R_cg0):=by
  refine loop_of hm (cx:=[]) [] (xl:=X_cg0) (α:=Unit × List (Int × Int) × Int × Int × List Int × List (Int × (Int × (Int × V))) × Unit) (fun x => x) (fun ((),l,n,i,ps,bs,()) => (n - i).toNat) (fun _ => rfl) (by kernel_rfl) (by kernel_rfl) ?_ (by kernel_rfl) trivial ?_
  · intro e S L' h
    unfold X_cg0 at h
    split at h <;> first | (cases h; done) | (cases h; kernel_rfl) | (rcases bif_some h with h | h <;> cases h <;> kernel_rfl)
  · rintro ⟨⟨⟩,l,n,i,ps,bs,⟨⟩⟩ hinv Q hQ
    refine hold_of_eq (B_cg0 l n i ps bs) ?_
    obtain ⟨rfl,h0,h1,h2,h3⟩:=hinv
    rw [W_id (n:=i + 1) (by omega) (by omega)]
    unfold O_cg0 at hQ
    dsimp only at hQ
    refine ⟨fun c1 => ?_,fun c1 => ?_⟩
    · have d1:=of_decide_eq_true c1
      have hm:((l.length:Int) - (i + 1)).toNat < ((l.length:Int) - i).toNat:=by omega
      have b1:i < ps.length:=by omega
      rw [spansE_step h0 d1 b1] at hQ
      unfold spanBad at hQ
      refine ⟨⟨h0,d1⟩,fun c2 => ?_,fun c2 => ⟨fun c3 => ?_,fun c3 => ⟨⟨h0,b1⟩,fun c4 => ?_,fun c4 => ?_⟩⟩⟩
      · rw [show decide ((l.getD i.toNat (0,0)).1 < 0) = true from c2,Bool.true_or,Bool.true_or,Bool.true_or] at hQ
        exact hQ.1 rfl
      · rw [show decide ((l.getD i.toNat (0,0)).1 > (l.getD i.toNat (0,0)).2) = true from c3,Bool.or_true,Bool.true_or,Bool.true_or] at hQ
        exact hQ.1 rfl
      · rw [show decide ((l.getD i.toNat (0,0)).2 ≥ ps.getD i.toNat 0) = true from c4,Bool.or_true,Bool.true_or] at hQ
        exact hQ.1 rfl
      · rw [show decide ((l.getD i.toNat (0,0)).1 < 0) = false from c2,show decide ((l.getD i.toNat (0,0)).1 > (l.getD i.toNat (0,0)).2) = false from c3,show decide ((l.getD i.toNat (0,0)).2 ≥ ps.getD i.toNat 0) = false from c4,Bool.false_or,Bool.false_or,Bool.false_or] at hQ
        exact ⟨⟨⟨rfl,by omega,by omega,h2,h3⟩,hm⟩,hQ⟩
    · have d1:=of_decide_eq_false c1
      rw [drop_end d1,spansE_nil] at hQ
      exact hQ.2 rfl
theorem T_CheckGoal (s0_0:List Int) (s0_1:List (Int × (Int × (Int × V)))) (g:List (Int × Int)):fnTree (P:=P) [c_Check.gc] (lpOf [(0,R_cg0)]) Try.f22 (encL 0 [.agg (.pair tIs (.sl (.pair tI (.pair tI (.pair tI tV))))),.val (.sl tPart)] ((s0_0,s0_1),g,())) =
  Tree.cond (checkS (s0_0,s0_1) != (0:Int)) (.leaf (SV.int IntKind.i64 (checkS (s0_0,s0_1)))) (.cond ((g.length:Int) != (s0_0.length:Int)) (.leaf (SV.int IntKind.i64 (3:Int))) (.need (inv_cg0 ((),g,(g.length:Int),(0:Int),s0_0,s0_1,())) (.cond (spansE (List.drop (Int.toNat (0:Int)) s0_0) (List.drop (Int.toNat (0:Int)) g)) (.leaf (SV.int IntKind.i64 (2:Int))) (.leaf (SV.int IntKind.i64 (0:Int)))))):=by kernel_rfl
def c_CheckGoal:PC P:=PC.of (α:=(List Int × List (Int × (Int × (Int × V)))) × List (Int × Int) × Unit) 22 [.agg (.pair tIs (.sl (.pair tI (.pair tI (.pair tI tV))))),.val (.sl tPart)] (fun x => x) (fun x => x) (fun _ => rfl)
  (fun _ => none)
  (fun x => .int .i64 (goalS x.1 x.2.1)) (by kernel_rfl) (by
    rintro ⟨⟨s0_0,s0_1⟩,g,⟨⟩⟩ hp
    refine fn_of hm (by kernel_rfl) (by kernel_rfl) (T_CheckGoal s0_0 s0_1 g) ⟨K_cg0,trivial⟩ ?_
    try dsimp only at hp
    try dsimp only
    have fin:∀ k:Int,goalS (s0_0,s0_1) g = k → SV.int .i64 k = SV.int .i64 (goalS (s0_0,s0_1) g):=fun k h => by rw [h]
    refine ⟨fun c1 => ?_,fun c1 => ⟨fun c2 => ?_,fun c2 => ⟨?_,fun c3 => ?_,fun c3 => ?_⟩⟩⟩
    · have d1:checkS (s0_0,s0_1) ≠ 0:=by simpa using c1
      exact fin _ (by unfold goalS; rw [if_pos d1])
    all_goals
      have d1:checkS (s0_0,s0_1) = 0:=by simpa using c1
      obtain ⟨k1,k2,k3,k4,k5⟩:=checkS_ok d1
      dsimp only at k1 k2 k3 k4 k5
    · have d2:(g.length:Int) ≠ s0_0.length:=by simpa using c2
      exact fin _ (by unfold goalS; rw [if_neg (by rw [d1]; simp),if_pos d2])
    all_goals
      have d2:(g.length:Int) = s0_0.length:=by simpa using c2
    · exact ⟨rfl,by decide,by omega,by omega,by omega⟩
    · have d3:spansE s0_0 g = true:=c3
      exact fin _ (by unfold goalS; rw [if_neg (by rw [d1]; simp),if_neg (by rw [d2]; simp),if_pos d3])
    · have d3:spansE s0_0 g = false:=c3
      exact fin _ (by unfold goalS; rw [if_neg (by rw [d1]; simp),if_neg (by rw [d2]; simp),if_neg (by rw [d3]; simp)]))
def askedS (r:Rig) (s:List Int) (g:List (Int × Int)) (losses:Int):Int :=
  if stateS r s ≠ 0 then stateS r s else if goalS r g ≠ 0 then goalS r g else if wi losses 0 2 = false then 2 else 0
theorem T_asked (s0_0:List Int) (s0_1:List (Int × (Int × (Int × V)))) (s1:List Int) (s2:List (Int × Int)) (s3:Int):fnTree (P:=P) [c_State.gc,c_CheckGoal.gc,c_within.gc] (lpOf []) Try.f19 (encL 0 [.agg (.pair tIs (.sl (.pair tI (.pair tI (.pair tI tV))))),.val tIs,.val (.sl tPart),.val tI] ((s0_0,s0_1),s1,s2,s3,())) =
  Tree.cond (stateS (s0_0,s0_1) s1 != (0:Int)) (.leaf (SV.int IntKind.i64 (stateS (s0_0,s0_1) s1))) (.cond (goalS (s0_0,s0_1) s2 != (0:Int)) (.leaf (SV.int IntKind.i64 (goalS (s0_0,s0_1) s2))) (.cond (!wi s3 (0:Int) (2:Int)) (.leaf (SV.int IntKind.i64 (2:Int))) (.leaf (SV.int IntKind.i64 (0:Int))))):=by kernel_rfl
def c_asked:PC P:=PC.of (α:=(List Int × List (Int × (Int × (Int × V)))) × List Int × List (Int × Int) × Int × Unit) 19 [.agg (.pair tIs (.sl (.pair tI (.pair tI (.pair tI tV))))),.val tIs,.val (.sl tPart),.val tI] (fun x => x) (fun x => x) (fun _ => rfl)
  (fun _ => none)
  (fun x => .int .i64 (askedS x.1 x.2.1 x.2.2.1 x.2.2.2.1)) (by kernel_rfl) (by
    rintro ⟨⟨s0_0,s0_1⟩,s1,s2,s3,⟨⟩⟩ hp
    refine fn_of hm (by kernel_rfl) (by kernel_rfl) (T_asked s0_0 s0_1 s1 s2 s3) trivial ?_
    try dsimp only at hp
    try dsimp only
    have fin:∀ k:Int,askedS (s0_0,s0_1) s1 s2 s3 = k → SV.int .i64 k = SV.int .i64 (askedS (s0_0,s0_1) s1 s2 s3):=fun k h => by rw [h]
    refine ⟨fun c1 => ?_,fun c1 => ⟨fun c2 => ?_,fun c2 => ⟨fun c3 => ?_,fun c3 => ?_⟩⟩⟩
    · have d1:stateS (s0_0,s0_1) s1 ≠ 0:=by simpa using c1
      exact fin _ (by unfold askedS; rw [if_pos d1])
    all_goals
      have d1:stateS (s0_0,s0_1) s1 = 0:=by simpa using c1
    · have d2:goalS (s0_0,s0_1) s2 ≠ 0:=by simpa using c2
      exact fin _ (by unfold askedS; rw [if_neg (by rw [d1]; simp),if_pos d2])
    all_goals
      have d2:goalS (s0_0,s0_1) s2 = 0:=by simpa using c2
    · have d3:wi s3 0 2 = false:=by simpa using c3
      exact fin _ (by unfold askedS; rw [if_neg (by rw [d1]; simp),if_neg (by rw [d2]; simp),if_pos d3])
    · have d3:wi s3 0 2 = true:=by simpa using c3
      exact fin _ (by unfold askedS; rw [if_neg (by rw [d1]; simp),if_neg (by rw [d2]; simp),if_neg (by rw [d3]; simp)]))
theorem layR_len (ps:List Int) (bs:List Ban) (sf:List Bool) (many losses:Int):∀ (k:Nat) (layer:Int) (tk:List Int),(layR ps bs sf many losses k layer tk).length = tk.length
  | 0,_,_ => rfl
  | k + 1,layer,tk => by
    rw [layR]
    split
    · rfl
    · rw [layR_len,putL_len]
theorem cntSf_len (ps:List Int) (bs:List Ban) (g:List (Int × Int)):(cntSf ps bs g).length = 4096:=by
  unfold cntSf init0
  rw [(initR_len ps bs g _ 0 _).2,List.length_replicate]
theorem cntTk_len (ps:List Int) (bs:List Ban) (g:List (Int × Int)) (losses:Int):(cntTk ps bs g losses).length = 12288:=by
  unfold cntTk
  rw [layR_len]
  unfold init0
  rw [(initR_len ps bs g _ 0 _).1,List.length_replicate]
theorem goalS_ok {r:Rig} {g:List (Int × Int)} (h:goalS r g = 0):checkS r = 0 ∧ g.length = r.1.length ∧ spansE r.1 g = false:=by
  unfold goalS at h
  split at h
  · omega
  split at h
  · omega
  split at h
  · omega
  rename_i h1 h2 h3
  exact ⟨by omega,by omega,by simpa using h3⟩
theorem askedS_ok {r:Rig} {s:List Int} {g:List (Int × Int)} {losses:Int} (h:askedS r s g losses = 0):checkS r = 0 ∧ StOk r.1 r.2 s ∧ g.length = r.1.length ∧ 0 ≤ losses ∧ losses ≤ 2:=by
  unfold askedS at h
  split at h
  · omega
  split at h
  · omega
  split at h
  · omega
  rename_i h1 h2 h3
  obtain ⟨a1,a2,a3⟩:=stateS_in (r:=r) (s:=s) (.inl (by omega))
  obtain ⟨k1,k2,k3,k4,k5⟩:=checkS_ok a1
  obtain ⟨g1,g2,g3⟩:=goalS_ok (r:=r) (g:=g) (by omega)
  have hw:wi losses 0 2 = true:=by simpa using h3
  unfold wi at hw
  rw [Bool.and_eq_true,decide_eq_true_eq,decide_eq_true_eq] at hw
  exact ⟨a1,⟨k1,k2,k3,a2,a3,k4,banEs_all k5⟩,g2,hw.1,hw.2⟩
theorem leS_t2 (l:List Int) (e:Int):LeS (.tup [.sl tI l,.int .i64 e]) (.tup [.sl tI l,.int .i64 e]):=by simp [LeS,LeL]
theorem leS_o2 (l:List Int) (e:Int):LeS (.tup [.osl tI l,.int .i64 e]) (.tup [.sl tI l,.int .i64 e]):=by simp [LeS,LeL]
theorem leS_n2 (e:Int):LeS (.tup [.nils,.int .i64 e]) (.tup [.sl tI [],.int .i64 e]):=by simp [LeS,LeL]
def tickN (r:Rig) (s:List Int) (g:List (Int × Int)) (losses:Int):Int:=(cntTk r.1 r.2 g losses).getD (losses.toNat * 4096 + (numW r.1 s 0).toNat) 0
def ticksS (r:Rig) (s:List Int) (g:List (Int × Int)) (losses:Int):Int × Int :=
  if askedS r s g losses ≠ 0 then (0,askedS r s g losses) else if tickN r s g losses < 0 then (0,13) else (IntKind.i64.wrap (tickN r s g losses),0)
theorem T_Ticks (s0_0:List Int) (s0_1:List (Int × (Int × (Int × V)))) (s1:List Int) (s2:List (Int × Int)) (s3:Int):fnTree (P:=P) [c_asked.gc,c_count.gc,c_number.gc] (lpOf []) Try.f8 (encL 0 [.agg (.pair tIs (.sl (.pair tI (.pair tI (.pair tI tV))))),.val tIs,.val (.sl tPart),.val tI] ((s0_0,s0_1),s1,s2,s3,())) =
  Tree.cond (askedS (s0_0,s0_1) s1 s2 s3 != (0:Int)) (.leaf (SV.tup [SV.int IntKind.i64 (0:Int),SV.int IntKind.i64 (askedS (s0_0,s0_1) s1 s2 s3)])) (.need (checkS (s0_0,s0_1) = (0:Int) ∧ List.length s2 = List.length s0_0 ∧ (0:Int) ≤ s3 ∧ s3 ≤ (2:Int)) (.need (List.length s1 ≤ (1000:Nat) ∧ List.length s1 ≤ List.length s0_0) (.need ((0:Int) ≤ s3 ∧ s3 < (↑(3:Nat):Int)) (.need ((0:Int) ≤ numW s0_0 s1 (0:Int) ∧ numW s0_0 s1 (0:Int) < (↑(4096:Nat):Int)) (.need (Int.toNat s3 * (4096:Nat) + Int.toNat (numW s0_0 s1 (0:Int)) < List.length (cntTk s0_0 s0_1 s2 s3)) (.cond (decide (List.getD (cntTk s0_0 s0_1 s2 s3) (Int.toNat s3 * (4096:Nat) + Int.toNat (numW s0_0 s1 (0:Int))) (0:Int) < (0:Int))) (.leaf (SV.tup [SV.int IntKind.i64 (0:Int),SV.int IntKind.i64 (13:Int)])) (.leaf (SV.tup [SV.int IntKind.i64 (IntKind.i64.wrap (List.getD (cntTk s0_0 s0_1 s2 s3) (Int.toNat s3 * (4096:Nat) + Int.toNat (numW s0_0 s1 (0:Int))) (0:Int))),SV.int IntKind.i64 (0:Int)])))))))):=by kernel_rfl
def c_Ticks:PC P:=PC.of (α:=(List Int × List (Int × (Int × (Int × V)))) × List Int × List (Int × Int) × Int × Unit) 8 [.agg (.pair tIs (.sl (.pair tI (.pair tI (.pair tI tV))))),.val tIs,.val (.sl tPart),.val tI] (fun x => x) (fun x => x) (fun _ => rfl)
  (fun _ => none)
  (fun x => .tup [.int .i64 (ticksS x.1 x.2.1 x.2.2.1 x.2.2.2.1).1,.int .i64 (ticksS x.1 x.2.1 x.2.2.1 x.2.2.2.1).2]) (by kernel_rfl) (by
    rintro ⟨⟨s0_0,s0_1⟩,s1,s2,s3,⟨⟩⟩ hp
    refine fn_of hm (by kernel_rfl) (by kernel_rfl) (T_Ticks s0_0 s0_1 s1 s2 s3) trivial ?_
    try dsimp only at hp
    try dsimp only
    have fin:∀ k:Int × Int,ticksS (s0_0,s0_1) s1 s2 s3 = k → SV.tup [.int .i64 k.1,.int .i64 k.2] = SV.tup [.int .i64 (ticksS (s0_0,s0_1) s1 s2 s3).1,.int .i64 (ticksS (s0_0,s0_1) s1 s2 s3).2]:=fun k h => by rw [h]
    refine ⟨fun c1 => ?_,fun c1 => ?_⟩
    · have d1:askedS (s0_0,s0_1) s1 s2 s3 ≠ 0:=by simpa using c1
      exact fin (0,askedS (s0_0,s0_1) s1 s2 s3) (by unfold ticksS; rw [if_pos d1])
    · have d1:askedS (s0_0,s0_1) s1 s2 s3 = 0:=by simpa using c1
      obtain ⟨a1,a2,a3,a4,a5⟩:=askedS_ok d1
      dsimp only at a1 a2 a3 a4 a5
      have hn:=num_rng a2.pb a2.l4 a2.sl a2.si
      have htl:=cntTk_len s0_0 s0_1 s2 s3
      have l4:=a2.l4
      have sl:=a2.sl
      refine ⟨⟨a1,a3,a4,a5⟩,⟨by omega,by omega⟩,⟨a4,by omega⟩,⟨by omega,by omega⟩,by omega,fun c2 => ?_,fun c2 => ?_⟩
      · have d2:tickN (s0_0,s0_1) s1 s2 s3 < 0:=of_decide_eq_true c2
        exact fin (0,13) (by unfold ticksS; rw [if_neg (by rw [d1]; simp),if_pos d2])
      · have d2:¬ tickN (s0_0,s0_1) s1 s2 s3 < 0:=of_decide_eq_false c2
        exact fin (_,0) (by unfold ticksS; rw [if_neg (by rw [d1]; simp),if_neg d2]; rfl))
def nextS (r:Rig) (s:List Int) (g:List (Int × Int)) (losses:Int):List Int × Int :=
  if askedS r s g losses ≠ 0 then ([],askedS r s g losses) else if tickN r s g losses < 0 then ([],13) else if tickN r s g losses = 0 then (List.replicate s.length 0,0)
  else (bestS r.1 r.2 (cntTk r.1 r.2 g losses) s losses (IntKind.wrap IntKind.i8 (tickN r s g losses - 1)),0)
theorem T_Next (s0_0:List Int) (s0_1:List (Int × (Int × (Int × V)))) (s1:List Int) (s2:List (Int × Int)) (s3:Int):fnTree (P:=P) [c_asked.gc,c_count.gc,c_number.gc,c_bst.gc] (lpOf []) Try.f11 (encL 0 [.agg (.pair tIs (.sl (.pair tI (.pair tI (.pair tI tV))))),.val tIs,.val (.sl tPart),.val tI] ((s0_0,s0_1),s1,s2,s3,())) =
  Tree.cond (askedS (s0_0,s0_1) s1 s2 s3 != (0:Int)) (.leaf (SV.tup [SV.nils,SV.int IntKind.i64 (askedS (s0_0,s0_1) s1 s2 s3)])) (.need (checkS (s0_0,s0_1) = (0:Int) ∧ List.length s2 = List.length s0_0 ∧ (0:Int) ≤ s3 ∧ s3 ≤ (2:Int)) (.need (List.length s1 ≤ (1000:Nat) ∧ List.length s1 ≤ List.length s0_0) (.need ((0:Int) ≤ s3 ∧ s3 < (↑(3:Nat):Int)) (.need ((0:Int) ≤ numW s0_0 s1 (0:Int) ∧ numW s0_0 s1 (0:Int) < (↑(4096:Nat):Int)) (.need (Int.toNat s3 * (4096:Nat) + Int.toNat (numW s0_0 s1 (0:Int)) < List.length (cntTk s0_0 s0_1 s2 s3)) (.cond (decide (List.getD (cntTk s0_0 s0_1 s2 s3) (Int.toNat s3 * (4096:Nat) + Int.toNat (numW s0_0 s1 (0:Int))) (0:Int) < (0:Int))) (.leaf (SV.tup [SV.nils,SV.int IntKind.i64 (13:Int)])) (.cond (List.getD (cntTk s0_0 s0_1 s2 s3) (Int.toNat s3 * (4096:Nat) + Int.toNat (numW s0_0 s1 (0:Int))) (0:Int) == (0:Int)) (.need ((0:Int) ≤ (s1.length:Int) ∧ (s1.length:Int) = (s1.length:Int) ∧ (s1.length:Int) ≤ (70368744177664:Int) ∧ (↑(8:Nat):Int) * (s1.length:Int) ≤ (140737488355328:Int)) (.leaf (SV.tup [SV.sl (Ty.int IntKind.i64) (List.replicate (Int.toNat (s1.length:Int)) (0:Int)),SV.int IntKind.i64 (0:Int)]))) (.need (StOk s0_0 s0_1 s1 ∧ (0:Int) ≤ s3 ∧ s3 ≤ (2:Int)) (.leaf (SV.tup [SV.osl (Ty.int IntKind.i64) (bestS s0_0 s0_1 (cntTk s0_0 s0_1 s2 s3) s1 s3 (IntKind.wrap IntKind.i8 (List.getD (cntTk s0_0 s0_1 s2 s3) (Int.toNat s3 * (4096:Nat) + Int.toNat (numW s0_0 s1 (0:Int))) (0:Int) - (1:Int)))),SV.int IntKind.i64 (0:Int)])))))))))):=by kernel_rfl
def c_Next:PC P:=PC.of (α:=(List Int × List (Int × (Int × (Int × V)))) × List Int × List (Int × Int) × Int × Unit) 11 [.agg (.pair tIs (.sl (.pair tI (.pair tI (.pair tI tV))))),.val tIs,.val (.sl tPart),.val tI] (fun x => x) (fun x => x) (fun _ => rfl)
  (fun _ => none)
  (fun x => .tup [.sl tI (nextS x.1 x.2.1 x.2.2.1 x.2.2.2.1).1,.int .i64 (nextS x.1 x.2.1 x.2.2.1 x.2.2.2.1).2]) (by kernel_rfl) (by
    rintro ⟨⟨s0_0,s0_1⟩,s1,s2,s3,⟨⟩⟩ hp
    refine fn_le hm (by kernel_rfl) (by kernel_rfl) (T_Next s0_0 s0_1 s1 s2 s3) trivial (by kernel_rfl) ?_
    try dsimp only at hp
    try dsimp only
    have fin:∀ k:List Int × Int,nextS (s0_0,s0_1) s1 s2 s3 = k → LeS (SV.tup [.sl tI k.1,.int .i64 k.2]) (SV.tup [.sl tI (nextS (s0_0,s0_1) s1 s2 s3).1,.int .i64 (nextS (s0_0,s0_1) s1 s2 s3).2]):=fun k h => by rw [h]; exact leS_t2 _ _
    have fino:∀ k:List Int × Int,nextS (s0_0,s0_1) s1 s2 s3 = k → LeS (SV.tup [.osl tI k.1,.int .i64 k.2]) (SV.tup [.sl tI (nextS (s0_0,s0_1) s1 s2 s3).1,.int .i64 (nextS (s0_0,s0_1) s1 s2 s3).2]):=fun k h => by rw [h]; exact leS_o2 _ _
    have finn:∀ e:Int,nextS (s0_0,s0_1) s1 s2 s3 = ([],e) → LeS (SV.tup [.nils,.int .i64 e]) (SV.tup [.sl tI (nextS (s0_0,s0_1) s1 s2 s3).1,.int .i64 (nextS (s0_0,s0_1) s1 s2 s3).2]):=fun k h => by rw [h]; exact leS_n2 _
    refine ⟨fun c1 => ?_,fun c1 => ?_⟩
    · have d1:askedS (s0_0,s0_1) s1 s2 s3 ≠ 0:=by simpa using c1
      exact finn _ (by unfold nextS; rw [if_pos d1])
    · have d1:askedS (s0_0,s0_1) s1 s2 s3 = 0:=by simpa using c1
      obtain ⟨a1,a2,a3,a4,a5⟩:=askedS_ok d1
      dsimp only at a1 a2 a3 a4 a5
      have hn:=num_rng a2.pb a2.l4 a2.sl a2.si
      have htl:=cntTk_len s0_0 s0_1 s2 s3
      have l4:=a2.l4
      have sl:=a2.sl
      refine ⟨⟨a1,a3,a4,a5⟩,⟨by omega,by omega⟩,⟨a4,by omega⟩,⟨by omega,by omega⟩,by omega,fun c2 => ?_,fun c2 => ⟨fun c3 => ⟨⟨by omega,rfl,by omega,by omega⟩,?_⟩,fun c3 => ⟨⟨a2,a4,a5⟩,?_⟩⟩⟩
      · have d2:tickN (s0_0,s0_1) s1 s2 s3 < 0:=of_decide_eq_true c2
        exact finn _ (by unfold nextS; rw [if_neg (by rw [d1]; simp),if_pos d2])
      · have d2:¬ tickN (s0_0,s0_1) s1 s2 s3 < 0:=of_decide_eq_false c2
        have d3:tickN (s0_0,s0_1) s1 s2 s3 = 0:=eq_of_beq c3
        exact fin (_,0) (by unfold nextS; rw [if_neg (by rw [d1]; simp),if_neg d2,if_pos d3,Int.toNat_natCast]; rfl)
      · have d2:¬ tickN (s0_0,s0_1) s1 s2 s3 < 0:=of_decide_eq_false c2
        have d3:¬ tickN (s0_0,s0_1) s1 s2 s3 = 0:=fun e => by
          have:(tickN (s0_0,s0_1) s1 s2 s3 == 0) = false:=c3
          rw [e] at this; cases this
        exact fino (_,0) (by unfold nextS; rw [if_neg (by rw [d1]; simp),if_neg d2,if_neg d3]; rfl))
def rdyR (sf:List Bool) (tk:List Int) (losses:Int):Nat → Int → Int × Int → Int × Int
  | 0,_,x => x
  | k + 1,n,x => rdyR sf tk losses k (n + 1) (if sf.getD n.toNat false = false then x else if IntKind.i64.wrap (tk.getD (losses.toNat * 4096 + n.toNat) 0) < 0 then (x.1,IntKind.i64.wrap (x.2 + 1)) else (maxI x.1 (IntKind.i64.wrap (tk.getD (losses.toNat * 4096 + n.toNat) 0)),x.2))
def readyS (r:Rig) (g:List (Int × Int)) (losses:Int):Int × Int × Int :=
  if goalS r g ≠ 0 then (0,0,goalS r g) else if wi losses 0 2 = false then (0,0,2)
  else ((rdyR (cntSf r.1 r.2 g) (cntTk r.1 r.2 g losses) losses (manyW r.1 1).toNat 0 (0,0)).1,(rdyR (cntSf r.1 r.2 g) (cntTk r.1 r.2 g losses) losses (manyW r.1 1).toNat 0 (0,0)).2,0)
def L_rdy0:Lay:={ slots:=[(2,.val tI),(6,.val tI),(7,.val tI),(10,.ptr 26059 0),(29,.val tI),(30,.val tI)],boxes:=[(26059,[.val tIs,.val (.sl (.pair tI (.pair tI (.pair tI tV)))),.arr (.int .i8) 12288,.arr .bool 4096,.val tI])] }
def L_rdy0_0:Lay:={ slots:=[(6,.val tI),(7,.val tI)] }
def X_rdy0:Exit → St → Option Lay
  | .exit 0,_ => some L_rdy0_0
  | _,_ => none
abbrev C_rdy0:Code:=loopC (bodyOf Try.f9) 0
theorem B_rdy0 (losses w st N n:Int) (ps:List Int) (bs:List (Int × (Int × (Int × V)))) (tk:List Int) (sf:List Bool) (mn:Int):loopBodyA (P:=P) [] (lpOf []) [] 59 noU (inner C_rdy0) L_rdy0 X_rdy0 (α:=Int × Int × Int × Unit × Int × Int × List Int × List (Int × (Int × (Int × V))) × List Int × List Bool × Int × Unit) (fun x => x) (fun x => x) (losses,w,st,(),N,n,ps,bs,tk,sf,mn,()) =
  Tree.cond (decide (n < N)) (.need ((0:Int) ≤ n ∧ n < (↑(4096:Nat):Int)) (.need (Int.toNat n < List.length sf) (.cond (!List.getD sf (Int.toNat n) false) (.leaf (Sum.inl (losses,w,st,(),N,IntKind.i64.wrap (n + (1:Int)),ps,bs,tk,sf,mn,()))) (.need ((0:Int) ≤ losses ∧ losses < (↑(3:Nat):Int)) (.need ((0:Int) ≤ n ∧ n < (↑(4096:Nat):Int)) (.need (Int.toNat losses * (4096:Nat) + Int.toNat n < List.length tk) (.cond (decide (IntKind.i64.wrap (List.getD tk (Int.toNat losses * (4096:Nat) + Int.toNat n) (0:Int)) < (0:Int))) (.leaf (Sum.inl (losses,w,IntKind.i64.wrap (st + (1:Int)),(),N,IntKind.i64.wrap (n + (1:Int)),ps,bs,tk,sf,mn,()))) (.leaf (Sum.inl (losses,maxI w (IntKind.i64.wrap (List.getD tk (Int.toNat losses * (4096:Nat) + Int.toNat n) (0:Int))),st,(),N,IntKind.i64.wrap (n + (1:Int)),ps,bs,tk,sf,mn,())))))))))) (.leaf (Sum.inr (Exit.exit (0:Nat),Lay.st L_rdy0_0 noU (w,st,())))):=by kernel_rfl
def inv_rdy0:Int × Int × Int × Unit × Int × Int × List Int × List (Int × (Int × (Int × V))) × List Int × List Bool × Int × Unit → Prop:=fun (losses,w,st,(),N,n,ps,bs,tk,sf,mn,()) => 0 ≤ n ∧ n ≤ N ∧ N ≤ 4096 ∧ tk.length = 12288 ∧ sf.length = 4096 ∧ 0 ≤ losses ∧ losses ≤ 2
def O_rdy0:Int × Int × Int × Unit × Int × Int × List Int × List (Int × (Int × (Int × V))) × List Int × List Bool × Int × Unit → Tree (Exit × St):=fun (losses,w,st,(),N,n,ps,bs,tk,sf,mn,()) => (.leaf (.exit 0,L_rdy0_0.st noU (((rdyR sf tk losses (N - n).toNat n (w,st)).1),((rdyR sf tk losses (N - n).toNat n (w,st)).2),())))
def R_rdy0:LRun:=runOf 59 L_rdy0 (fun x => x) (inv_rdy0) (O_rdy0)
theorem K_rdy0:LoopOk P [] 59 none noU C_rdy0 (R_rdy0):=by
  refine loop_of hm (cx:=[]) [] (xl:=X_rdy0) (α:=Int × Int × Int × Unit × Int × Int × List Int × List (Int × (Int × (Int × V))) × List Int × List Bool × Int × Unit) (fun x => x) (fun (losses,w,st,(),N,n,ps,bs,tk,sf,mn,()) => (N - n).toNat) (fun _ => rfl) (by kernel_rfl) (by kernel_rfl) ?_ (by kernel_rfl) trivial ?_
  · intro e S L' h
    unfold X_rdy0 at h
    split at h <;> first | (cases h; done) | (cases h; kernel_rfl) | (rcases bif_some h with h | h <;> cases h <;> kernel_rfl)
  · rintro ⟨losses,w,st,⟨⟩,N,n,ps,bs,tk,sf,mn,⟨⟩⟩ hinv Q hQ
    refine hold_of_eq (B_rdy0 losses w st N n ps bs tk sf mn) ?_
    obtain ⟨h0,h1,h2,h3,h4,h5,h6⟩:=hinv
    have hQ' : Q (.exit 0,L_rdy0_0.st noU ((rdyR sf tk losses (N - n).toNat n (w,st)).1,(rdyR sf tk losses (N - n).toNat n (w,st)).2,())):=hQ
    refine ⟨fun c1 => ?_,fun c1 => ?_⟩
    · have d1:n < N:=of_decide_eq_true c1
      have hm:(N - (n + 1)).toNat < (N - n).toNat:=by omega
      rw [W_id (n:=n + 1) (by omega) (by omega)]
      rw [show (N - n).toNat = (N - (n + 1)).toNat + 1 by omega,rdyR] at hQ'
      have inv' : 0 ≤ n + 1 ∧ n + 1 ≤ N ∧ N ≤ 4096 ∧ tk.length = 12288 ∧ sf.length = 4096 ∧ 0 ≤ losses ∧ losses ≤ 2:=⟨by omega,by omega,h2,h3,h4,h5,h6⟩
      refine ⟨⟨h0,by omega⟩,by omega,fun c2 => ⟨⟨inv',hm⟩,?_⟩,fun c2 => ⟨⟨h5,by omega⟩,⟨h0,by omega⟩,by omega,fun c3 => ⟨⟨inv',hm⟩,?_⟩,fun c3 => ⟨⟨inv',hm⟩,?_⟩⟩⟩
      · have d2:sf.getD n.toNat false = false:=by simpa using c2
        rw [if_pos d2] at hQ'
        exact hQ'
      · have d2:¬ sf.getD n.toNat false = false:=by simpa using c2
        rw [if_neg d2,if_pos (of_decide_eq_true c3)] at hQ'
        exact hQ'
      · have d2:¬ sf.getD n.toNat false = false:=by simpa using c2
        rw [if_neg d2,if_neg (of_decide_eq_false c3)] at hQ'
        exact hQ'
    · have d1:¬ n < N:=of_decide_eq_false c1
      rw [show (N - n).toNat = 0 by omega] at hQ'
      exact hQ'
theorem T_Ready (s0_0:List Int) (s0_1:List (Int × (Int × (Int × V)))) (s1:List (Int × Int)) (losses:Int):fnTree (P:=P) [c_CheckGoal.gc,c_within.gc,c_count.gc] (lpOf [(0,R_rdy0)]) Try.f9 (encL 0 [.agg (.pair tIs (.sl (.pair tI (.pair tI (.pair tI tV))))),.val (.sl tPart),.val tI] ((s0_0,s0_1),s1,losses,())) =
  Tree.cond (goalS (s0_0,s0_1) s1 != (0:Int)) (.leaf (SV.tup [SV.int IntKind.i64 (0:Int),SV.int IntKind.i64 (0:Int),SV.int IntKind.i64 (goalS (s0_0,s0_1) s1)])) (.cond (!wi losses (0:Int) (2:Int)) (.leaf (SV.tup [SV.int IntKind.i64 (0:Int),SV.int IntKind.i64 (0:Int),SV.int IntKind.i64 (2:Int)])) (.need (checkS (s0_0,s0_1) = (0:Int) ∧ List.length s1 = List.length s0_0 ∧ (0:Int) ≤ losses ∧ losses ≤ (2:Int)) (.need (inv_rdy0 (losses,(0:Int),(0:Int),(),manyW s0_0 (1:Int),(0:Int),s0_0,s0_1,cntTk s0_0 s0_1 s1 losses,cntSf s0_0 s0_1 s1,manyW s0_0 (1:Int),())) (.leaf (SV.tup [SV.int IntKind.i64 (rdyR (cntSf s0_0 s0_1 s1) (cntTk s0_0 s0_1 s1 losses) losses (Int.toNat (manyW s0_0 (1:Int) - (0:Int))) (0:Int) ((0:Int),(0:Int))).fst,SV.int IntKind.i64 (rdyR (cntSf s0_0 s0_1 s1) (cntTk s0_0 s0_1 s1 losses) losses (Int.toNat (manyW s0_0 (1:Int) - (0:Int))) (0:Int) ((0:Int),(0:Int))).snd,SV.int IntKind.i64 (0:Int)]))))):=by kernel_rfl
def c_Ready:PC P:=PC.of (α:=(List Int × List (Int × (Int × (Int × V)))) × List (Int × Int) × Int × Unit) 9 [.agg (.pair tIs (.sl (.pair tI (.pair tI (.pair tI tV))))),.val (.sl tPart),.val tI] (fun x => x) (fun x => x) (fun _ => rfl)
  (fun _ => none)
  (fun x => .tup [.int .i64 (readyS x.1 x.2.1 x.2.2.1).1,.int .i64 (readyS x.1 x.2.1 x.2.2.1).2.1,.int .i64 (readyS x.1 x.2.1 x.2.2.1).2.2]) (by kernel_rfl) (by
    rintro ⟨⟨s0_0,s0_1⟩,s1,losses,⟨⟩⟩ hp
    refine fn_of hm (by kernel_rfl) (by kernel_rfl) (T_Ready s0_0 s0_1 s1 losses) ⟨K_rdy0,trivial⟩ ?_
    try dsimp only at hp
    try dsimp only
    have fin:∀ k:Int × Int × Int,readyS (s0_0,s0_1) s1 losses = k → SV.tup [.int .i64 k.1,.int .i64 k.2.1,.int .i64 k.2.2] = SV.tup [.int .i64 (readyS (s0_0,s0_1) s1 losses).1,.int .i64 (readyS (s0_0,s0_1) s1 losses).2.1,.int .i64 (readyS (s0_0,s0_1) s1 losses).2.2]:=fun k h => by rw [h]
    refine ⟨fun c1 => ?_,fun c1 => ⟨fun c2 => ?_,fun c2 => ?_⟩⟩
    · have d1:goalS (s0_0,s0_1) s1 ≠ 0:=by simpa using c1
      exact fin (0,0,goalS (s0_0,s0_1) s1) (by unfold readyS; rw [if_pos d1])
    all_goals
      have d1:goalS (s0_0,s0_1) s1 = 0:=by simpa using c1
    · have d3:wi losses 0 2 = false:=by simpa using c2
      exact fin (0,0,2) (by unfold readyS; rw [if_neg (by rw [d1]; simp),if_pos d3])
    · have d3:wi losses 0 2 = true:=by simpa using c2
      have hw:=d3
      unfold wi at hw
      rw [Bool.and_eq_true,decide_eq_true_eq,decide_eq_true_eq] at hw
      obtain ⟨g1,g2,g3⟩:=goalS_ok d1
      obtain ⟨k1,k2,k3,k4,k5⟩:=checkS_ok g1
      dsimp only at g2 k1 k2 k3 k4 k5
      have hpr:=prodL_rng k3
      have h4:(8:Int) ^ s0_0.length ≤ 4096:=pow_le k2
      have hmw:=manyW_eq (n:=1) k3 (by omega) (by omega)
      rw [Int.one_mul] at hmw
      rw [Int.sub_zero]
      exact ⟨⟨g1,g2,hw.1,hw.2⟩,⟨by decide,by omega,by omega,cntTk_len _ _ _ _,cntSf_len _ _ _,hw.1,hw.2⟩,fin (_,_,0) (by unfold readyS; rw [if_neg (by rw [d1]; simp),if_neg (by rw [d3]; simp)])⟩)
end
end Go.MR
