/- BarrierStands. -/
import Derived.Test.YtfhomgggbhjglaaMbAd
namespace Go.MB
open Go Go.Sx Go.Proofs
set_option linter.unusedVariables false
set_option linter.unusedSimpArgs false
noncomputable section
section
variable {α:Type} (s:Site) (e:Entry) (t:Site) (NI:Prop) (F G:Tree α)
abbrev hkS (s:Site):Prop:=houseE s.2.2.2.2.2.1 = 0 ∧ hOk s.2.2.2.2.2.1
abbrev lnS (s:Site):Prop:=s.2.2.2.2.2.2.1.length ≤ 1000
def k6:Tree α:=.cond (t.2.2.2.2.2.2.2 != -1) (.cond (s.2.2.2.2.2.2.2 != -1) (.cond (t.2.2.2.2.2.2.2 != s.2.2.2.2.2.2.2) F G) G) G
def k9:Tree α:=.cond (decide (t.2.2.2.2.2.2.2 > s.1)) (.need (hkS s) (.cond (!holdsS s.2.2.2.2.2.1 (IntKind.i64.wrap (t.2.2.2.2.2.2.2 - 1)) s.2.2.2.2.1) F (k6 s t F G))) (k6 s t F G)
def k14:Tree α:=.cond (decide (t.2.2.2.2.2.2.2 < e.1)) (.need (hkS s) (.cond (holdsS s.2.2.2.2.2.1 t.2.2.2.2.2.2.2 s.2.2.2.2.1) F (.need (lnS s) (.cond (cntO s.2.2.2.2.2.2.1 == 0) F (k9 s t F G))))) (k9 s t F G)
def k22:Tree α:=.cond (t.2.2.2.2.2.2.2 != -1) (.cond (s.2.2.2.2.2.2.2 == -1) (.cond (decide (t.2.2.2.2.2.2.2 < s.1)) F (.cond (decide (t.2.2.2.2.2.2.2 > e.1)) F (.cond (t.2.2.2.2.2.2.2 == e.1) (.cond (holdsS s.2.2.2.2.2.1 e.1 s.2.2.2.2.1) (.cond (e.2.1 != 3) (.cond (e.2.1 != 2) F (k14 s e t F G)) (k14 s e t F G)) (k14 s e t F G)) (k14 s e t F G)))) (k6 s t F G)) (k6 s t F G)
def k26:Tree α:=.need (lnS t) (.cond (cntO t.2.2.2.2.2.2.1 == 0) (.cond (!((t.2.2.2.2.2.2.2 == -1) == true)) F (k22 s e t F G)) (.cond (!((t.2.2.2.2.2.2.2 == -1) == holdsS t.2.2.2.2.2.1 e.1 t.2.2.2.2.1)) F (k22 s e t F G)))
def k31:Tree α:=.need (lnS s) (.cond (decide (cntO s.2.2.2.2.2.2.1 > 0)) (.cond (!holdsS t.2.2.2.2.2.1 e.1 t.2.2.2.2.1) (.cond (e.2.1 == 4) F (.cond (e.2.1 == 5) F (k26 s e t F G))) (k26 s e t F G)) (k26 s e t F G))
def k40:Tree α:=.need (hkS s) (.need (hkS t) (.need (lnS t) (.need (lnS s) (.cond (decide (cntO t.2.2.2.2.2.2.1 > cntO s.2.2.2.2.2.2.1)) (.need NI (.cond (e.2.1 != 9) F (.cond (!(false || (s.2.2.2.2.2.2.1.drop (Int.toNat 0)).any (undP e))) F (.cond (!holdsS t.2.2.2.2.2.1 e.1 t.2.2.2.2.1) F (k31 s e t F G))))) (k31 s e t F G)))))
variable {s e t NI F G}
theorem k40_ok {R:α → Prop} (hG:G.holds R) (hs:hkS s) (ht:hkS t) (ls:lnS s) (lt:lnS t) (ni:NI) (h0:0 ≤ s.1) (h1:e.1 ≤ 1099511627776) (k:StV s e t):(k40 s e t NI F G).holds R:=by
  obtain ⟨f1,f2,f3,f4,f5⟩:=k
  have g6:(k6 s t F G).holds R:=⟨fun c1 => ⟨fun c2 => ⟨fun c3 => absurd (f5 (bneT c1) (bneT c2)) (bneT c3),fun _ => hG⟩,fun _ => hG⟩,fun _ => hG⟩
  have g22:(k22 s e t F G).holds R:=by
    refine ⟨fun c1 => ⟨fun c2 => ?_,fun _ => g6⟩,fun _ => g6⟩
    obtain ⟨a1,a2,a3,a4,a5⟩:=f4 (bneT c1) (eq_of_beq c2)
    have g9:(k9 s t F G).holds R:=by
      refine ⟨fun c3 => ⟨hs,fun c4 => ?_,fun _ => g6⟩,fun _ => g6⟩
      have c3:=of_decide_eq_true c3
      rw [W_id (n:=t.2.2.2.2.2.2.2 - 1) (by omega) (by omega),a5 c3] at c4
      cases c4
    have g14:(k14 s e t F G).holds R:=by
      refine ⟨fun c3 => ⟨hs,fun c4 => ?_,fun _ => ⟨ls,fun c5 => ?_,fun _ => g9⟩⟩,fun _ => g9⟩
      · rw [(a4 (of_decide_eq_true c3)).1] at c4; cases c4
      · have:=(a4 (of_decide_eq_true c3)).2
        have:=eq_of_beq c5
        omega
    refine ⟨fun c3 => ?_,fun _ => ⟨fun c3 => ?_,fun _ => ⟨fun c3 => ⟨fun c4 => ⟨fun c5 => ⟨fun c6 => ?_,fun _ => g14⟩,fun _ => g14⟩,fun _ => g14⟩,fun _ => g14⟩⟩⟩
    · have:=of_decide_eq_true c3; omega
    · have:=of_decide_eq_true c3; omega
    · exact ((a3 (eq_of_beq c3) c4).elim (bneT c5) (bneT c6)).elim
  have g26:(k26 s e t F G).holds R:=by
    refine ⟨lt,fun c1 => ⟨fun c2 => ?_,fun _ => g22⟩,fun c1 => ⟨fun c2 => ?_,fun _ => g22⟩⟩
    · have:=f3.2 (.inl (eq_of_beq c1))
      rw [this] at c2; cases c2
    · have c1:=ne_of_beq_false c1
      by_cases d:holdsS t.2.2.2.2.2.1 e.1 t.2.2.2.2.1 = true
      · have:=f3.2 (.inr d)
        rw [this,d] at c2; cases c2
      · have:t.2.2.2.2.2.2.2 ≠ -1:=fun h => ((f3.1 h).elim c1 d)
        rw [beq_eq_false_iff_ne.2 this,Bool.eq_false_iff.2 d] at c2; cases c2
  have g31:(k31 s e t F G).holds R:=by
    refine ⟨ls,fun c1 => ⟨fun c2 => ⟨fun c3 => ?_,fun _ => ⟨fun c3 => ?_,fun _ => g26⟩⟩,fun _ => g26⟩,fun _ => g26⟩
    · rw [f2 (of_decide_eq_true c1) (.inl (eq_of_beq c3))] at c2; cases c2
    · rw [f2 (of_decide_eq_true c1) (.inr (eq_of_beq c3))] at c2; cases c2
  refine ⟨hs,ht,lt,ls,fun c1 => ⟨ni,fun c2 => ?_,fun _ => ⟨fun c2 => ?_,fun _ => ⟨fun c2 => ?_,fun _ => g31⟩⟩⟩,fun _ => g31⟩
  all_goals obtain ⟨b1,b2,b3⟩:=f1 (of_decide_eq_true c1)
  · exact (bneT c2 b1).elim
  · have:(s.2.2.2.2.2.2.1.drop (Int.toNat 0)).any (undP e) = true:=b2
    rw [this] at c2; cases c2
  · rw [b3] at c2; cases c2
end
def L_lopn:Lay:={ slots:=[(1,.ptr 2021 0),(3,.val tI),(4,.val tI)],boxes:=[(2021,[.val tI,.val tI,.val tI,.val tI,.val tI,.val (.sl (.pair tI tV)),.val (.sl tIs),.val tI,.val (.sl (.pair tI (.pair tI (.pair tI .bool)))),.val tI])] }
def L_lopn_0:Lay:={ slots:=[(3,.val tI)] }
def X_lopn:Exit → St → Option Lay
  | .exit 0,_ => some L_lopn_0
  | _,_ => none
abbrev C_lopn:Code:=loopC (bodyOf Try.f16) 0
theorem B_lopn (n i b1_0 b1_1 b1_2 b1_3 b1_4:Int) (b1_5:List (Int × V)) (b1_6:List (List Int)) (b1_7:Int) (x8:List (Int × (Int × (Int × Bool)))) (b1_9:Int):loopBodyA (P:=P) [] (lpOf []) [] 21 noU (inner C_lopn) L_lopn X_lopn (α:=Unit × Int × Int × Int × Int × Int × Int × Int × List (Int × V) × List (List Int) × Int × List (Int × (Int × (Int × Bool))) × Int × Unit) (fun x => x) (fun x => x) ((),n,i,b1_0,b1_1,b1_2,b1_3,b1_4,b1_5,b1_6,b1_7,x8,b1_9,()) =
  Tree.cond (decide (i < (x8.length:Int))) (.need ((0:Int) ≤ i ∧ i < (x8.length:Int)) (.cond (List.getD x8 (Int.toNat i) ((0:Int),(0:Int),(0:Int),false)).snd.snd.snd (.leaf (Sum.inl ((),IntKind.i64.wrap (n + (1:Int)),IntKind.i64.wrap (i + (1:Int)),b1_0,b1_1,b1_2,b1_3,b1_4,b1_5,b1_6,b1_7,x8,b1_9,()))) (.leaf (Sum.inl ((),n,IntKind.i64.wrap (i + (1:Int)),b1_0,b1_1,b1_2,b1_3,b1_4,b1_5,b1_6,b1_7,x8,b1_9,()))))) (.leaf (Sum.inr (Exit.exit (0:Nat),Lay.st L_lopn_0 noU (n,())))):=by kernel_rfl
def inv_lopn:Unit × Int × Int × Int × Int × Int × Int × Int × List (Int × V) × List (List Int) × Int × List (Int × (Int × (Int × Bool))) × Int × Unit → Prop:=fun ((),n,i,b1_0,b1_1,b1_2,b1_3,b1_4,b1_5,b1_6,b1_7,x8,b1_9,()) => 0 ≤ i ∧ i ≤ x8.length ∧ x8.length ≤ 1000 ∧ 0 ≤ n ∧ n ≤ i
def O_lopn:Unit × Int × Int × Int × Int × Int × Int × Int × List (Int × V) × List (List Int) × Int × List (Int × (Int × (Int × Bool))) × Int × Unit → Tree (Exit × St):=fun ((),n,i,b1_0,b1_1,b1_2,b1_3,b1_4,b1_5,b1_6,b1_7,x8,b1_9,()) => (.leaf (.exit 0,L_lopn_0.st noU ((n + cntO (x8.drop i.toNat)),())))
def R_lopn:LRun:=runOf 21 L_lopn (fun x => x) (inv_lopn) (O_lopn)
theorem K_lopn:LoopOk P [] 21 none noU C_lopn (R_lopn):=by
  refine loop_of hm (cx:=[]) [] (xl:=X_lopn) (α:=Unit × Int × Int × Int × Int × Int × Int × Int × List (Int × V) × List (List Int) × Int × List (Int × (Int × (Int × Bool))) × Int × Unit) (fun x => x) (fun ((),n,i,b1_0,b1_1,b1_2,b1_3,b1_4,b1_5,b1_6,b1_7,x8,b1_9,()) => (x8.length - i).toNat) (fun _ => rfl) (by kernel_rfl) (by kernel_rfl) ?_ (by kernel_rfl) trivial ?_
  · intro e S L' h
    unfold X_lopn at h
    split at h <;> first | (cases h; done) | (cases h; kernel_rfl) | (rcases bif_some h with h | h <;> cases h <;> kernel_rfl)
  · rintro ⟨⟨⟩,n,i,b1_0,b1_1,b1_2,b1_3,b1_4,b1_5,b1_6,b1_7,x8,b1_9,⟨⟩⟩ hinv Q hQ
    refine hold_of_eq (B_lopn n i b1_0 b1_1 b1_2 b1_3 b1_4 b1_5 b1_6 b1_7 x8 b1_9) ?_
    obtain ⟨h0,h1,h2,h3,h4⟩:=hinv
    unfold O_lopn at hQ
    dsimp only at hQ
    rw [W_id (n:=i + 1) (by omega) (by omega),W_id (n:=n + 1) (by omega) (by omega)]
    have hm:((x8.length:Int) - (i + 1)).toNat < ((x8.length:Int) - i).toNat ∨ ¬ i < (x8.length:Int):=by omega
    refine ⟨fun c1 => ?_,fun c1 => ?_⟩
    · have c1:=of_decide_eq_true c1
      have hm:=hm.resolve_right (fun k => k c1)
      rw [drop_step (0,0,0,false) h0 c1,cntO] at hQ
      refine ⟨⟨h0,c1⟩,fun c2 => ?_,fun c2 => ?_⟩
      · rw [if_pos c2,← Int.add_assoc] at hQ
        exact ⟨⟨⟨by omega,by omega,h2,by omega,by omega⟩,hm⟩,hQ⟩
      · rw [if_neg (by rw [c2]; decide),Int.zero_add] at hQ
        exact ⟨⟨⟨by omega,by omega,h2,by omega,by omega⟩,hm⟩,hQ⟩
    · have c1:=of_decide_eq_false c1
      rw [drop_end c1,cntO,Int.add_zero] at hQ
      exact hQ
theorem T_lopen (s_0 s_1 s_2 s_3 s_4:Int) (s_5:List (Int × V)) (s_6:List (List Int)) (s_7:Int) (s_8:List (Int × (Int × (Int × Bool)))) (s_9:Int):fnTree (P:=P) [] (lpOf [(0,R_lopn)]) Try.f16 (encL 0 [.agg (.pair tI (.pair tI (.pair tI (.pair tI (.pair tI (.pair (.pair (.sl (.pair tI tV)) (.pair (.sl tIs) tI)) (.pair (.sl (.pair tI (.pair tI (.pair tI .bool)))) tI)))))))] ((s_0,(s_1,(s_2,(s_3,(s_4,((s_5,(s_6,s_7)),(s_8,s_9))))))),())) =
  Tree.need (inv_lopn ((),(0:Int),(0:Int),s_0,s_1,s_2,s_3,s_4,s_5,s_6,s_7,s_8,s_9,())) (.leaf (SV.int IntKind.i64 ((0:Int) + cntO (List.drop (Int.toNat (0:Int)) s_8)))):=by kernel_rfl
def c_lopen:PC P:=PC.of (α:=(Int × (Int × (Int × (Int × (Int × ((List (Int × V) × (List (List Int) × Int)) × (List (Int × (Int × (Int × Bool))) × Int))))))) × Unit) 16 [.agg (.pair tI (.pair tI (.pair tI (.pair tI (.pair tI (.pair (.pair (.sl (.pair tI tV)) (.pair (.sl tIs) tI)) (.pair (.sl (.pair tI (.pair tI (.pair tI .bool)))) tI)))))))] (fun x => x) (fun x => x) (fun _ => rfl)
  (fun x => some (x.1.2.2.2.2.2.2.1.length ≤ 1000))
  (fun x => .int .i64 (cntO x.1.2.2.2.2.2.2.1)) (by kernel_rfl) (by
    rintro ⟨⟨s_0,⟨s_1,⟨s_2,⟨s_3,⟨s_4,⟨⟨s_5,⟨s_6,s_7⟩⟩,⟨s_8,s_9⟩⟩⟩⟩⟩⟩⟩,⟨⟩⟩ hp
    refine fn_of hm (by kernel_rfl) (by kernel_rfl) (T_lopen s_0 s_1 s_2 s_3 s_4 s_5 s_6 s_7 s_8 s_9) ⟨K_lopn,trivial⟩ ?_
    try dsimp only at hp
    try dsimp only
    have hp' : s_8.length ≤ 1000:=hp
    refine ⟨⟨by omega,by omega,hp',by omega,by omega⟩,?_⟩
    exact congrArg (SV.int .i64) (Int.zero_add _))
theorem T_lholds (s_0 s_1 s_2 s_3 s_4:Int) (s_5:List (Int × V)) (s_6:List (List Int)) (s_7:Int) (s_8:List (Int × (Int × (Int × Bool)))) (s_9 tick:Int):fnTree (P:=P) [c_Proof.gc] (lpOf []) Try.f15 (encL 0 [.agg (.pair tI (.pair tI (.pair tI (.pair tI (.pair tI (.pair (.pair (.sl (.pair tI tV)) (.pair (.sl tIs) tI)) (.pair (.sl (.pair tI (.pair tI (.pair tI .bool)))) tI))))))),.val tI] ((s_0,(s_1,(s_2,(s_3,(s_4,((s_5,(s_6,s_7)),(s_8,s_9))))))),tick,())) =
  Tree.need (hOk (s_5,s_6,s_7)) (.leaf (SV.bool (prS (s_5,s_6,s_7) tick s_4).snd)):=by kernel_rfl
def c_lholds:PC P:=PC.of (α:=(Int × (Int × (Int × (Int × (Int × ((List (Int × V) × (List (List Int) × Int)) × (List (Int × (Int × (Int × Bool))) × Int))))))) × Int × Unit) 15 [.agg (.pair tI (.pair tI (.pair tI (.pair tI (.pair tI (.pair (.pair (.sl (.pair tI tV)) (.pair (.sl tIs) tI)) (.pair (.sl (.pair tI (.pair tI (.pair tI .bool)))) tI))))))),.val tI] (fun x => x) (fun x => x) (fun _ => rfl)
  (fun x => some (houseE x.1.2.2.2.2.2.1 = 0 ∧ hOk x.1.2.2.2.2.2.1))
  (fun x => .bool (holdsS (x.1.2.2.2.2.2.1.1,(x.1.2.2.2.2.2.1.2.1,x.1.2.2.2.2.2.1.2.2)) x.2.1 x.1.2.2.2.2.1)) (by kernel_rfl) (by
    rintro ⟨⟨s_0,⟨s_1,⟨s_2,⟨s_3,⟨s_4,⟨⟨s_5,⟨s_6,s_7⟩⟩,⟨s_8,s_9⟩⟩⟩⟩⟩⟩⟩,tick,⟨⟩⟩ hp
    refine fn_of hm (by kernel_rfl) (by kernel_rfl) (T_lholds s_0 s_1 s_2 s_3 s_4 s_5 s_6 s_7 s_8 s_9 tick) trivial ?_
    try dsimp only at hp
    try dsimp only
    obtain ⟨h1,h2⟩ : houseE (s_5,s_6,s_7) = 0 ∧ hOk (s_5,s_6,s_7):=hp
    refine ⟨h2,congrArg SV.bool ?_⟩
    rw [Bool.eq_iff_iff,prS_two]
    exact ⟨fun h => h.2,fun h => ⟨h1,h⟩⟩)
def L_sta2:Lay:={ slots:=[(3,.ptr 17207 0),(4,.ptr 5207 0),(5,.val tI),(6,.ptr 7207 0),(7,.ptr 8207 0),(9,.val .bool),(10,.val .bool),(11,.val .bool),(12,.val tI)],boxes:=[(5207,[.val tI,.val tI,.val tI,.val tI,.val tI,.val (.sl (.pair tI tV)),.val (.sl tIs),.val tI,.val (.sl (.pair tI (.pair tI (.pair tI .bool)))),.val tI]),(7207,[.val tI,.val tI,.val tI,.val tI,.val tI,.val tI]),(8207,[.val tI,.val tI,.val tI,.val tI,.val tI,.val (.sl (.pair tI tV)),.val (.sl tIs),.val tI,.val (.sl (.pair tI (.pair tI (.pair tI .bool)))),.val tI]),(17207,[.val tIs,.val tI])] }
def L_sta2_0:Lay:={ slots:=[(3,.ptr 17207 0),(4,.ptr 5207 0),(5,.val tI),(6,.ptr 7207 0),(7,.ptr 8207 0),(9,.val .bool),(10,.val .bool),(11,.val .bool)],boxes:=[(5207,[.val tI,.val tI,.val tI,.val tI,.val tI,.val (.sl (.pair tI tV)),.val (.sl tIs),.val tI,.val (.sl (.pair tI (.pair tI (.pair tI .bool)))),.val tI]),(7207,[.val tI,.val tI,.val tI,.val tI,.val tI,.val tI]),(8207,[.val tI,.val tI,.val tI,.val tI,.val tI,.val (.sl (.pair tI tV)),.val (.sl tIs),.val tI,.val (.sl (.pair tI (.pair tI (.pair tI .bool)))),.val tI]),(17207,[.val tIs,.val tI])] }
def X_sta2:Exit → St → Option Lay
  | .exit 2,_ => some L_sta2_0
  | _,_ => none
abbrev C_sta2:Code:=loopC (inner (loopC (bodyOf Try.f4) 0)) 2
theorem B_sta2 (i:Int) (was is under:Bool) (j x0 x1 x2 x3 x4:Int) (x5:List (Int × V)) (x6:List (List Int)) (x7:Int) (x8:List (Int × (Int × (Int × Bool)))) (x9 e0 e1 e2 e3 e4 e5 t0 t1 t2 t3 t4:Int) (t5:List (Int × V)) (t6:List (List Int)) (t7:Int) (t8:List (Int × (Int × (Int × Bool)))) (t9:Int) (l:List Int) (k:Int):loopBodyA (P:=P) [] (lpOf []) [] 207 noU (inner C_sta2) L_sta2 X_sta2 (α:=Unit × Unit × Int × Unit × Unit × Bool × Bool × Bool × Int × Int × Int × Int × Int × Int × List (Int × V) × List (List Int) × Int × List (Int × (Int × (Int × Bool))) × Int × Int × Int × Int × Int × Int × Int × Int × Int × Int × Int × Int × List (Int × V) × List (List Int) × Int × List (Int × (Int × (Int × Bool))) × Int × List Int × Int × Unit) (fun x => x) (fun x => x) ((),(),i,(),(),was,is,under,j,x0,x1,x2,x3,x4,x5,x6,x7,x8,x9,e0,e1,e2,e3,e4,e5,t0,t1,t2,t3,t4,t5,t6,t7,t8,t9,l,k,()) =
  Tree.cond (decide (j < (x8.length:Int))) (.need ((0:Int) ≤ j ∧ j < (x8.length:Int)) (.cond under (.leaf (Sum.inl ((),(),i,(),(),was,is,true,IntKind.i64.wrap (j + (1:Int)),x0,x1,x2,x3,x4,x5,x6,x7,x8,x9,e0,e1,e2,e3,e4,e5,t0,t1,t2,t3,t4,t5,t6,t7,t8,t9,l,k,()))) (.cond ((List.getD x8 (Int.toNat j) ((0:Int),(0:Int),(0:Int),false)).fst == e3) (.cond ((List.getD x8 (Int.toNat j) ((0:Int),(0:Int),(0:Int),false)).snd.fst == e2) (.cond (!(List.getD x8 (Int.toNat j) ((0:Int),(0:Int),(0:Int),false)).snd.snd.snd) (.leaf (Sum.inl ((),(),i,(),(),was,is,decide (e0 ≤ (List.getD x8 (Int.toNat j) ((0:Int),(0:Int),(0:Int),false)).snd.snd.fst),IntKind.i64.wrap (j + (1:Int)),x0,x1,x2,x3,x4,x5,x6,x7,x8,x9,e0,e1,e2,e3,e4,e5,t0,t1,t2,t3,t4,t5,t6,t7,t8,t9,l,k,()))) (.leaf (Sum.inl ((),(),i,(),(),was,is,false,IntKind.i64.wrap (j + (1:Int)),x0,x1,x2,x3,x4,x5,x6,x7,x8,x9,e0,e1,e2,e3,e4,e5,t0,t1,t2,t3,t4,t5,t6,t7,t8,t9,l,k,())))) (.leaf (Sum.inl ((),(),i,(),(),was,is,false,IntKind.i64.wrap (j + (1:Int)),x0,x1,x2,x3,x4,x5,x6,x7,x8,x9,e0,e1,e2,e3,e4,e5,t0,t1,t2,t3,t4,t5,t6,t7,t8,t9,l,k,())))) (.leaf (Sum.inl ((),(),i,(),(),was,is,false,IntKind.i64.wrap (j + (1:Int)),x0,x1,x2,x3,x4,x5,x6,x7,x8,x9,e0,e1,e2,e3,e4,e5,t0,t1,t2,t3,t4,t5,t6,t7,t8,t9,l,k,())))))) (.leaf (Sum.inr (Exit.exit (2:Nat),Lay.st L_sta2_0 noU ((),(),i,(),(),was,is,under,x0,x1,x2,x3,x4,x5,x6,x7,x8,x9,e0,e1,e2,e3,e4,e5,t0,t1,t2,t3,t4,t5,t6,t7,t8,t9,l,k,())))):=by kernel_rfl
def inv_sta2:Unit × Unit × Int × Unit × Unit × Bool × Bool × Bool × Int × Int × Int × Int × Int × Int × List (Int × V) × List (List Int) × Int × List (Int × (Int × (Int × Bool))) × Int × Int × Int × Int × Int × Int × Int × Int × Int × Int × Int × Int × List (Int × V) × List (List Int) × Int × List (Int × (Int × (Int × Bool))) × Int × List Int × Int × Unit → Prop:=fun ((),(),i,(),(),was,is,under,j,x0,x1,x2,x3,x4,x5,x6,x7,x8,x9,e0,e1,e2,e3,e4,e5,t0,t1,t2,t3,t4,t5,t6,t7,t8,t9,l,k,()) => 0 ≤ j ∧ j ≤ x8.length ∧ x8.length ≤ 1000
def O_sta2:Unit × Unit × Int × Unit × Unit × Bool × Bool × Bool × Int × Int × Int × Int × Int × Int × List (Int × V) × List (List Int) × Int × List (Int × (Int × (Int × Bool))) × Int × Int × Int × Int × Int × Int × Int × Int × Int × Int × Int × Int × List (Int × V) × List (List Int) × Int × List (Int × (Int × (Int × Bool))) × Int × List Int × Int × Unit → Tree (Exit × St):=fun ((),(),i,(),(),was,is,under,j,x0,x1,x2,x3,x4,x5,x6,x7,x8,x9,e0,e1,e2,e3,e4,e5,t0,t1,t2,t3,t4,t5,t6,t7,t8,t9,l,k,()) => (.leaf (.exit 2,L_sta2_0.st noU ((),(),i,(),(),was,is,(under || (x8.drop j.toNat).any (undP (e0,e1,e2,e3,e4,e5))),x0,x1,x2,x3,x4,x5,x6,x7,x8,x9,e0,e1,e2,e3,e4,e5,t0,t1,t2,t3,t4,t5,t6,t7,t8,t9,l,k,())))
def R_sta2:LRun:=runOf 207 L_sta2 (fun x => x) (inv_sta2) (O_sta2)
theorem K_sta2:LoopOk P [] 207 none noU C_sta2 (R_sta2):=by
  refine loop_of hm (cx:=[]) [] (xl:=X_sta2) (α:=Unit × Unit × Int × Unit × Unit × Bool × Bool × Bool × Int × Int × Int × Int × Int × Int × List (Int × V) × List (List Int) × Int × List (Int × (Int × (Int × Bool))) × Int × Int × Int × Int × Int × Int × Int × Int × Int × Int × Int × Int × List (Int × V) × List (List Int) × Int × List (Int × (Int × (Int × Bool))) × Int × List Int × Int × Unit) (fun x => x) (fun ((),(),i,(),(),was,is,under,j,x0,x1,x2,x3,x4,x5,x6,x7,x8,x9,e0,e1,e2,e3,e4,e5,t0,t1,t2,t3,t4,t5,t6,t7,t8,t9,l,k,()) => (x8.length - j).toNat) (fun _ => rfl) (by kernel_rfl) (by kernel_rfl) ?_ (by kernel_rfl) trivial ?_
  · intro e S L' h
    unfold X_sta2 at h
    split at h <;> first | (cases h; done) | (cases h; kernel_rfl) | (rcases bif_some h with h | h <;> cases h <;> kernel_rfl)
  · rintro ⟨⟨⟩,⟨⟩,i,⟨⟩,⟨⟩,was,is,under,j,x0,x1,x2,x3,x4,x5,x6,x7,x8,x9,e0,e1,e2,e3,e4,e5,t0,t1,t2,t3,t4,t5,t6,t7,t8,t9,l,k,⟨⟩⟩ hinv Q hQ
    refine hold_of_eq (B_sta2 i was is under j x0 x1 x2 x3 x4 x5 x6 x7 x8 x9 e0 e1 e2 e3 e4 e5 t0 t1 t2 t3 t4 t5 t6 t7 t8 t9 l k) ?_
    obtain ⟨h0,h1,h2⟩:=hinv
    unfold O_sta2 at hQ
    dsimp only at hQ
    rw [W_id (n:=j + 1) (by omega) (by omega)]
    have hm:((x8.length:Int) - (j + 1)).toNat < ((x8.length:Int) - j).toNat ∨ ¬ j < (x8.length:Int):=by omega
    refine ⟨fun c1 => ?_,fun c1 => ?_⟩
    · have c1:=of_decide_eq_true c1
      have hm:=hm.resolve_right (fun k => k c1)
      rw [drop_step (0,0,0,false) h0 c1,List.any_cons,← Bool.or_assoc] at hQ
      have hu:undP (e0,e1,e2,e3,e4,e5) (x8.getD j.toNat (0,0,0,false)) = (((x8.getD j.toNat (0,0,0,false)).1 == e3) && (((x8.getD j.toNat (0,0,0,false)).2.1 == e2) && (!(x8.getD j.toNat (0,0,0,false)).2.2.2 && decide (e0 ≤ (x8.getD j.toNat (0,0,0,false)).2.2.1)))):=rfl
      rw [hu] at hQ
      refine ⟨⟨h0,c1⟩,fun c2 => ?_,fun c2 => ⟨fun c3 => ⟨fun c4 => ⟨fun c5 => ?_,fun c5 => ?_⟩,fun c4 => ?_⟩,fun c3 => ?_⟩⟩
      · rw [c2,Bool.true_or] at hQ
        exact ⟨⟨⟨by omega,by omega,h2⟩,hm⟩,hQ⟩
      · rw [c2,c3,c4,c5,Bool.false_or,Bool.true_and,Bool.true_and,Bool.true_and] at hQ
        exact ⟨⟨⟨by omega,by omega,h2⟩,hm⟩,hQ⟩
      · rw [c2,c3,c4,c5,Bool.false_or,Bool.true_and,Bool.true_and,Bool.false_and] at hQ
        exact ⟨⟨⟨by omega,by omega,h2⟩,hm⟩,hQ⟩
      · rw [c2,c3,c4,Bool.false_or,Bool.true_and,Bool.false_and] at hQ
        exact ⟨⟨⟨by omega,by omega,h2⟩,hm⟩,hQ⟩
      · rw [c2,c3,Bool.false_or,Bool.false_and] at hQ
        exact ⟨⟨⟨by omega,by omega,h2⟩,hm⟩,hQ⟩
    · have c1:=of_decide_eq_false c1
      rw [drop_end c1,List.any_nil,Bool.or_false] at hQ
      exact hQ
def L_sta0:Lay:={ slots:=[(3,.ptr 17207 0),(4,.ptr 5207 0),(5,.val tI)],boxes:=[(5207,[.val tI,.val tI,.val tI,.val tI,.val tI,.val (.sl (.pair tI tV)),.val (.sl tIs),.val tI,.val (.sl (.pair tI (.pair tI (.pair tI .bool)))),.val tI]),(17207,[.val tIs,.val tI])] }
def L_sta0_0:Lay:={ slots:=[(2,.val .bool)] }
def L_sta0_1:Lay:={ slots:=[] }
def X_sta0:Exit → St → Option Lay
  | .ret,_ => some L_sta0_0
  | .exit 0,_ => some L_sta0_1
  | _,_ => none
abbrev C_sta0:Code:=loopC (bodyOf Try.f4) 0
set_option maxHeartbeats 8000000 in
theorem B_sta0 (i x0 x1 x2 x3 x4:Int) (x5:List (Int × V)) (x6:List (List Int)) (x7:Int) (x8:List (Int × (Int × (Int × Bool)))) (x9:Int) (l:List Int) (k:Int) (n0_:Tree (Sum (Unit × Unit × Int × Int × Int × Int × Int × Int × List (Int × V) × List (List Int) × Int × List (Int × (Int × (Int × Bool))) × Int × List Int × Int × Unit) (Exit × St))) (hn0_:n0_ = (Tree.leaf (Sum.inl ((),(),IntKind.i64.wrap (i + (1:Int)),(dS (x0,x1,x2,x3,x4,(x5,x6,x7),x8,x9) (V_EntryOf ((),(x0,x1,x2,x3,x4,(x5,x6,x7),x8,x9),(25:Int),l,k,())).fst).fst.fst,(dS (x0,x1,x2,x3,x4,(x5,x6,x7),x8,x9) (V_EntryOf ((),(x0,x1,x2,x3,x4,(x5,x6,x7),x8,x9),(25:Int),l,k,())).fst).fst.snd.fst,(dS (x0,x1,x2,x3,x4,(x5,x6,x7),x8,x9) (V_EntryOf ((),(x0,x1,x2,x3,x4,(x5,x6,x7),x8,x9),(25:Int),l,k,())).fst).fst.snd.snd.fst,(dS (x0,x1,x2,x3,x4,(x5,x6,x7),x8,x9) (V_EntryOf ((),(x0,x1,x2,x3,x4,(x5,x6,x7),x8,x9),(25:Int),l,k,())).fst).fst.snd.snd.snd.fst,(dS (x0,x1,x2,x3,x4,(x5,x6,x7),x8,x9) (V_EntryOf ((),(x0,x1,x2,x3,x4,(x5,x6,x7),x8,x9),(25:Int),l,k,())).fst).fst.snd.snd.snd.snd.fst,(dS (x0,x1,x2,x3,x4,(x5,x6,x7),x8,x9) (V_EntryOf ((),(x0,x1,x2,x3,x4,(x5,x6,x7),x8,x9),(25:Int),l,k,())).fst).fst.snd.snd.snd.snd.snd.fst.fst,(dS (x0,x1,x2,x3,x4,(x5,x6,x7),x8,x9) (V_EntryOf ((),(x0,x1,x2,x3,x4,(x5,x6,x7),x8,x9),(25:Int),l,k,())).fst).fst.snd.snd.snd.snd.snd.fst.snd.fst,(dS (x0,x1,x2,x3,x4,(x5,x6,x7),x8,x9) (V_EntryOf ((),(x0,x1,x2,x3,x4,(x5,x6,x7),x8,x9),(25:Int),l,k,())).fst).fst.snd.snd.snd.snd.snd.fst.snd.snd,(dS (x0,x1,x2,x3,x4,(x5,x6,x7),x8,x9) (V_EntryOf ((),(x0,x1,x2,x3,x4,(x5,x6,x7),x8,x9),(25:Int),l,k,())).fst).fst.snd.snd.snd.snd.snd.snd.fst,(dS (x0,x1,x2,x3,x4,(x5,x6,x7),x8,x9) (V_EntryOf ((),(x0,x1,x2,x3,x4,(x5,x6,x7),x8,x9),(25:Int),l,k,())).fst).fst.snd.snd.snd.snd.snd.snd.snd,l,(V_EntryOf ((),(x0,x1,x2,x3,x4,(x5,x6,x7),x8,x9),(25:Int),l,k,())).snd,())))) (n1_:Tree (Sum (Unit × Unit × Int × Int × Int × Int × Int × Int × List (Int × V) × List (List Int) × Int × List (Int × (Int × (Int × Bool))) × Int × List Int × Int × Unit) (Exit × St))) (hn1_:n1_ = (Tree.cond ((dS (x0,x1,x2,x3,x4,(x5,x6,x7),x8,x9) (V_EntryOf ((),(x0,x1,x2,x3,x4,(x5,x6,x7),x8,x9),(25:Int),l,k,())).fst).fst.snd.snd.snd.snd.snd.snd.snd != (-1:Int)) (Tree.cond (x9 != (-1:Int)) (Tree.cond ((dS (x0,x1,x2,x3,x4,(x5,x6,x7),x8,x9) (V_EntryOf ((),(x0,x1,x2,x3,x4,(x5,x6,x7),x8,x9),(25:Int),l,k,())).fst).fst.snd.snd.snd.snd.snd.snd.snd != x9) (Tree.leaf (Sum.inr (Exit.ret,Lay.st L_sta0_0 noU (false,())))) n0_) n0_) n0_)) (n2_:Tree (Sum (Unit × Unit × Int × Int × Int × Int × Int × Int × List (Int × V) × List (List Int) × Int × List (Int × (Int × (Int × Bool))) × Int × List Int × Int × Unit) (Exit × St))) (hn2_:n2_ = (Tree.cond (decide ((dS (x0,x1,x2,x3,x4,(x5,x6,x7),x8,x9) (V_EntryOf ((),(x0,x1,x2,x3,x4,(x5,x6,x7),x8,x9),(25:Int),l,k,())).fst).fst.snd.snd.snd.snd.snd.snd.snd > x0)) (Tree.need (houseE (x5,x6,x7) = (0:Int) ∧ hOk (x5,x6,x7)) (Tree.cond (!holdsS (x5,x6,x7) (IntKind.i64.wrap ((dS (x0,x1,x2,x3,x4,(x5,x6,x7),x8,x9) (V_EntryOf ((),(x0,x1,x2,x3,x4,(x5,x6,x7),x8,x9),(25:Int),l,k,())).fst).fst.snd.snd.snd.snd.snd.snd.snd - (1:Int))) x4) (Tree.leaf (Sum.inr (Exit.ret,Lay.st L_sta0_0 noU (false,())))) n1_)) n1_)) (n3_:Tree (Sum (Unit × Unit × Int × Int × Int × Int × Int × Int × List (Int × V) × List (List Int) × Int × List (Int × (Int × (Int × Bool))) × Int × List Int × Int × Unit) (Exit × St))) (hn3_:n3_ = (Tree.cond (decide ((dS (x0,x1,x2,x3,x4,(x5,x6,x7),x8,x9) (V_EntryOf ((),(x0,x1,x2,x3,x4,(x5,x6,x7),x8,x9),(25:Int),l,k,())).fst).fst.snd.snd.snd.snd.snd.snd.snd < (V_EntryOf ((),(x0,x1,x2,x3,x4,(x5,x6,x7),x8,x9),(25:Int),l,k,())).fst.fst)) (Tree.need (houseE (x5,x6,x7) = (0:Int) ∧ hOk (x5,x6,x7)) (Tree.cond (holdsS (x5,x6,x7) (dS (x0,x1,x2,x3,x4,(x5,x6,x7),x8,x9) (V_EntryOf ((),(x0,x1,x2,x3,x4,(x5,x6,x7),x8,x9),(25:Int),l,k,())).fst).fst.snd.snd.snd.snd.snd.snd.snd x4) (Tree.leaf (Sum.inr (Exit.ret,Lay.st L_sta0_0 noU (false,())))) (Tree.need (List.length x8 ≤ (1000:Nat)) (Tree.cond (cntO x8 == (0:Int)) (Tree.leaf (Sum.inr (Exit.ret,Lay.st L_sta0_0 noU (false,())))) n2_)))) n2_)) (n4_:Tree (Sum (Unit × Unit × Int × Int × Int × Int × Int × Int × List (Int × V) × List (List Int) × Int × List (Int × (Int × (Int × Bool))) × Int × List Int × Int × Unit) (Exit × St))) (hn4_:n4_ = (Tree.cond ((dS (x0,x1,x2,x3,x4,(x5,x6,x7),x8,x9) (V_EntryOf ((),(x0,x1,x2,x3,x4,(x5,x6,x7),x8,x9),(25:Int),l,k,())).fst).fst.snd.snd.snd.snd.snd.snd.snd != (-1:Int)) (Tree.cond (x9 == (-1:Int)) (Tree.cond (decide ((dS (x0,x1,x2,x3,x4,(x5,x6,x7),x8,x9) (V_EntryOf ((),(x0,x1,x2,x3,x4,(x5,x6,x7),x8,x9),(25:Int),l,k,())).fst).fst.snd.snd.snd.snd.snd.snd.snd < x0)) (Tree.leaf (Sum.inr (Exit.ret,Lay.st L_sta0_0 noU (false,())))) (Tree.cond (decide ((dS (x0,x1,x2,x3,x4,(x5,x6,x7),x8,x9) (V_EntryOf ((),(x0,x1,x2,x3,x4,(x5,x6,x7),x8,x9),(25:Int),l,k,())).fst).fst.snd.snd.snd.snd.snd.snd.snd > (V_EntryOf ((),(x0,x1,x2,x3,x4,(x5,x6,x7),x8,x9),(25:Int),l,k,())).fst.fst)) (Tree.leaf (Sum.inr (Exit.ret,Lay.st L_sta0_0 noU (false,())))) (Tree.cond ((dS (x0,x1,x2,x3,x4,(x5,x6,x7),x8,x9) (V_EntryOf ((),(x0,x1,x2,x3,x4,(x5,x6,x7),x8,x9),(25:Int),l,k,())).fst).fst.snd.snd.snd.snd.snd.snd.snd == (V_EntryOf ((),(x0,x1,x2,x3,x4,(x5,x6,x7),x8,x9),(25:Int),l,k,())).fst.fst) (Tree.cond (holdsS (x5,x6,x7) (V_EntryOf ((),(x0,x1,x2,x3,x4,(x5,x6,x7),x8,x9),(25:Int),l,k,())).fst.fst x4) (Tree.cond ((V_EntryOf ((),(x0,x1,x2,x3,x4,(x5,x6,x7),x8,x9),(25:Int),l,k,())).fst.snd.fst != (3:Int)) (Tree.cond ((V_EntryOf ((),(x0,x1,x2,x3,x4,(x5,x6,x7),x8,x9),(25:Int),l,k,())).fst.snd.fst != (2:Int)) (Tree.leaf (Sum.inr (Exit.ret,Lay.st L_sta0_0 noU (false,())))) n3_) n3_) n3_) n3_))) n1_) n1_)) (n5_:Tree (Sum (Unit × Unit × Int × Int × Int × Int × Int × Int × List (Int × V) × List (List Int) × Int × List (Int × (Int × (Int × Bool))) × Int × List Int × Int × Unit) (Exit × St))) (hn5_:n5_ = (Tree.need (List.length (dS (x0,x1,x2,x3,x4,(x5,x6,x7),x8,x9) (V_EntryOf ((),(x0,x1,x2,x3,x4,(x5,x6,x7),x8,x9),(25:Int),l,k,())).fst).fst.snd.snd.snd.snd.snd.snd.fst ≤ (1000:Nat)) (Tree.cond (cntO (dS (x0,x1,x2,x3,x4,(x5,x6,x7),x8,x9) (V_EntryOf ((),(x0,x1,x2,x3,x4,(x5,x6,x7),x8,x9),(25:Int),l,k,())).fst).fst.snd.snd.snd.snd.snd.snd.fst == (0:Int)) (Tree.cond (!((dS (x0,x1,x2,x3,x4,(x5,x6,x7),x8,x9) (V_EntryOf ((),(x0,x1,x2,x3,x4,(x5,x6,x7),x8,x9),(25:Int),l,k,())).fst).fst.snd.snd.snd.snd.snd.snd.snd == (-1:Int)) == true) (Tree.leaf (Sum.inr (Exit.ret,Lay.st L_sta0_0 noU (false,())))) n4_) (Tree.cond (!((dS (x0,x1,x2,x3,x4,(x5,x6,x7),x8,x9) (V_EntryOf ((),(x0,x1,x2,x3,x4,(x5,x6,x7),x8,x9),(25:Int),l,k,())).fst).fst.snd.snd.snd.snd.snd.snd.snd == (-1:Int)) == holdsS (dS (x0,x1,x2,x3,x4,(x5,x6,x7),x8,x9) (V_EntryOf ((),(x0,x1,x2,x3,x4,(x5,x6,x7),x8,x9),(25:Int),l,k,())).fst).fst.snd.snd.snd.snd.snd.fst (V_EntryOf ((),(x0,x1,x2,x3,x4,(x5,x6,x7),x8,x9),(25:Int),l,k,())).fst.fst (dS (x0,x1,x2,x3,x4,(x5,x6,x7),x8,x9) (V_EntryOf ((),(x0,x1,x2,x3,x4,(x5,x6,x7),x8,x9),(25:Int),l,k,())).fst).fst.snd.snd.snd.snd.fst) (Tree.leaf (Sum.inr (Exit.ret,Lay.st L_sta0_0 noU (false,())))) n4_)))) (n6_:Tree (Sum (Unit × Unit × Int × Int × Int × Int × Int × Int × List (Int × V) × List (List Int) × Int × List (Int × (Int × (Int × Bool))) × Int × List Int × Int × Unit) (Exit × St))) (hn6_:n6_ = (Tree.need (List.length x8 ≤ (1000:Nat)) (Tree.cond (decide (cntO x8 > (0:Int))) (Tree.cond (!holdsS (dS (x0,x1,x2,x3,x4,(x5,x6,x7),x8,x9) (V_EntryOf ((),(x0,x1,x2,x3,x4,(x5,x6,x7),x8,x9),(25:Int),l,k,())).fst).fst.snd.snd.snd.snd.snd.fst (V_EntryOf ((),(x0,x1,x2,x3,x4,(x5,x6,x7),x8,x9),(25:Int),l,k,())).fst.fst (dS (x0,x1,x2,x3,x4,(x5,x6,x7),x8,x9) (V_EntryOf ((),(x0,x1,x2,x3,x4,(x5,x6,x7),x8,x9),(25:Int),l,k,())).fst).fst.snd.snd.snd.snd.fst) (Tree.cond ((V_EntryOf ((),(x0,x1,x2,x3,x4,(x5,x6,x7),x8,x9),(25:Int),l,k,())).fst.snd.fst == (4:Int)) (Tree.leaf (Sum.inr (Exit.ret,Lay.st L_sta0_0 noU (false,())))) (Tree.cond ((V_EntryOf ((),(x0,x1,x2,x3,x4,(x5,x6,x7),x8,x9),(25:Int),l,k,())).fst.snd.fst == (5:Int)) (Tree.leaf (Sum.inr (Exit.ret,Lay.st L_sta0_0 noU (false,())))) n5_)) n5_) n5_))):loopBodyA (P:=P) [c_EntryOf.gc,c_DoX.gc,c_lopen.gc,c_lholds.gc] (lpOf [(2,R_sta2)]) [] 207 noU (inner C_sta0) L_sta0 X_sta0 (α:=Unit × Unit × Int × Int × Int × Int × Int × Int × List (Int × V) × List (List Int) × Int × List (Int × (Int × (Int × Bool))) × Int × List Int × Int × Unit) (fun x => x) (fun x => x) ((),(),i,x0,x1,x2,x3,x4,x5,x6,x7,x8,x9,l,k,()) =
  Tree.cond (decide (i < (20:Int))) (.need (pr_EntryOf ((),(x0,x1,x2,x3,x4,(x5,x6,x7),x8,x9),(25:Int),l,k,())) (.need (sOk (x0,x1,x2,x3,x4,(x5,x6,x7),x8,x9) ∧ List.length x8 ≤ (900:Nat)) (.cond ((dS (x0,x1,x2,x3,x4,(x5,x6,x7),x8,x9) (V_EntryOf ((),(x0,x1,x2,x3,x4,(x5,x6,x7),x8,x9),(25:Int),l,k,())).fst).snd != (0:Int)) (.leaf (Sum.inl ((),(),IntKind.i64.wrap (i + (1:Int)),x0,x1,x2,x3,x4,x5,x6,x7,x8,x9,l,(V_EntryOf ((),(x0,x1,x2,x3,x4,(x5,x6,x7),x8,x9),(25:Int),l,k,())).snd,()))) (.need (houseE (x5,x6,x7) = (0:Int) ∧ hOk (x5,x6,x7)) (.need (houseE (dS (x0,x1,x2,x3,x4,(x5,x6,x7),x8,x9) (V_EntryOf ((),(x0,x1,x2,x3,x4,(x5,x6,x7),x8,x9),(25:Int),l,k,())).fst).fst.snd.snd.snd.snd.snd.fst = (0:Int) ∧ hOk (dS (x0,x1,x2,x3,x4,(x5,x6,x7),x8,x9) (V_EntryOf ((),(x0,x1,x2,x3,x4,(x5,x6,x7),x8,x9),(25:Int),l,k,())).fst).fst.snd.snd.snd.snd.snd.fst) (.need (List.length (dS (x0,x1,x2,x3,x4,(x5,x6,x7),x8,x9) (V_EntryOf ((),(x0,x1,x2,x3,x4,(x5,x6,x7),x8,x9),(25:Int),l,k,())).fst).fst.snd.snd.snd.snd.snd.snd.fst ≤ (1000:Nat)) (.need (List.length x8 ≤ (1000:Nat)) (.cond (decide (cntO (dS (x0,x1,x2,x3,x4,(x5,x6,x7),x8,x9) (V_EntryOf ((),(x0,x1,x2,x3,x4,(x5,x6,x7),x8,x9),(25:Int),l,k,())).fst).fst.snd.snd.snd.snd.snd.snd.fst > cntO x8)) (.need (inv_sta2 ((),(),i,(),(),holdsS (x5,x6,x7) (V_EntryOf ((),(x0,x1,x2,x3,x4,(x5,x6,x7),x8,x9),(25:Int),l,k,())).fst.fst x4,holdsS (dS (x0,x1,x2,x3,x4,(x5,x6,x7),x8,x9) (V_EntryOf ((),(x0,x1,x2,x3,x4,(x5,x6,x7),x8,x9),(25:Int),l,k,())).fst).fst.snd.snd.snd.snd.snd.fst (V_EntryOf ((),(x0,x1,x2,x3,x4,(x5,x6,x7),x8,x9),(25:Int),l,k,())).fst.fst (dS (x0,x1,x2,x3,x4,(x5,x6,x7),x8,x9) (V_EntryOf ((),(x0,x1,x2,x3,x4,(x5,x6,x7),x8,x9),(25:Int),l,k,())).fst).fst.snd.snd.snd.snd.fst,false,(0:Int),x0,x1,x2,x3,x4,x5,x6,x7,x8,x9,(V_EntryOf ((),(x0,x1,x2,x3,x4,(x5,x6,x7),x8,x9),(25:Int),l,k,())).fst.fst,(V_EntryOf ((),(x0,x1,x2,x3,x4,(x5,x6,x7),x8,x9),(25:Int),l,k,())).fst.snd.fst,(V_EntryOf ((),(x0,x1,x2,x3,x4,(x5,x6,x7),x8,x9),(25:Int),l,k,())).fst.snd.snd.fst,(V_EntryOf ((),(x0,x1,x2,x3,x4,(x5,x6,x7),x8,x9),(25:Int),l,k,())).fst.snd.snd.snd.fst,(V_EntryOf ((),(x0,x1,x2,x3,x4,(x5,x6,x7),x8,x9),(25:Int),l,k,())).fst.snd.snd.snd.snd.fst,(V_EntryOf ((),(x0,x1,x2,x3,x4,(x5,x6,x7),x8,x9),(25:Int),l,k,())).fst.snd.snd.snd.snd.snd,(dS (x0,x1,x2,x3,x4,(x5,x6,x7),x8,x9) (V_EntryOf ((),(x0,x1,x2,x3,x4,(x5,x6,x7),x8,x9),(25:Int),l,k,())).fst).fst.fst,(dS (x0,x1,x2,x3,x4,(x5,x6,x7),x8,x9) (V_EntryOf ((),(x0,x1,x2,x3,x4,(x5,x6,x7),x8,x9),(25:Int),l,k,())).fst).fst.snd.fst,(dS (x0,x1,x2,x3,x4,(x5,x6,x7),x8,x9) (V_EntryOf ((),(x0,x1,x2,x3,x4,(x5,x6,x7),x8,x9),(25:Int),l,k,())).fst).fst.snd.snd.fst,(dS (x0,x1,x2,x3,x4,(x5,x6,x7),x8,x9) (V_EntryOf ((),(x0,x1,x2,x3,x4,(x5,x6,x7),x8,x9),(25:Int),l,k,())).fst).fst.snd.snd.snd.fst,(dS (x0,x1,x2,x3,x4,(x5,x6,x7),x8,x9) (V_EntryOf ((),(x0,x1,x2,x3,x4,(x5,x6,x7),x8,x9),(25:Int),l,k,())).fst).fst.snd.snd.snd.snd.fst,(dS (x0,x1,x2,x3,x4,(x5,x6,x7),x8,x9) (V_EntryOf ((),(x0,x1,x2,x3,x4,(x5,x6,x7),x8,x9),(25:Int),l,k,())).fst).fst.snd.snd.snd.snd.snd.fst.fst,(dS (x0,x1,x2,x3,x4,(x5,x6,x7),x8,x9) (V_EntryOf ((),(x0,x1,x2,x3,x4,(x5,x6,x7),x8,x9),(25:Int),l,k,())).fst).fst.snd.snd.snd.snd.snd.fst.snd.fst,(dS (x0,x1,x2,x3,x4,(x5,x6,x7),x8,x9) (V_EntryOf ((),(x0,x1,x2,x3,x4,(x5,x6,x7),x8,x9),(25:Int),l,k,())).fst).fst.snd.snd.snd.snd.snd.fst.snd.snd,(dS (x0,x1,x2,x3,x4,(x5,x6,x7),x8,x9) (V_EntryOf ((),(x0,x1,x2,x3,x4,(x5,x6,x7),x8,x9),(25:Int),l,k,())).fst).fst.snd.snd.snd.snd.snd.snd.fst,(dS (x0,x1,x2,x3,x4,(x5,x6,x7),x8,x9) (V_EntryOf ((),(x0,x1,x2,x3,x4,(x5,x6,x7),x8,x9),(25:Int),l,k,())).fst).fst.snd.snd.snd.snd.snd.snd.snd,l,(V_EntryOf ((),(x0,x1,x2,x3,x4,(x5,x6,x7),x8,x9),(25:Int),l,k,())).snd,())) (.cond ((V_EntryOf ((),(x0,x1,x2,x3,x4,(x5,x6,x7),x8,x9),(25:Int),l,k,())).fst.snd.fst != (9:Int)) (.leaf (Sum.inr (Exit.ret,Lay.st L_sta0_0 noU (false,())))) (.cond (!(false || List.any (List.drop (Int.toNat (0:Int)) x8) (undP (V_EntryOf ((),(x0,x1,x2,x3,x4,(x5,x6,x7),x8,x9),(25:Int),l,k,())).fst))) (.leaf (Sum.inr (Exit.ret,Lay.st L_sta0_0 noU (false,())))) (.cond (!holdsS (dS (x0,x1,x2,x3,x4,(x5,x6,x7),x8,x9) (V_EntryOf ((),(x0,x1,x2,x3,x4,(x5,x6,x7),x8,x9),(25:Int),l,k,())).fst).fst.snd.snd.snd.snd.snd.fst (V_EntryOf ((),(x0,x1,x2,x3,x4,(x5,x6,x7),x8,x9),(25:Int),l,k,())).fst.fst (dS (x0,x1,x2,x3,x4,(x5,x6,x7),x8,x9) (V_EntryOf ((),(x0,x1,x2,x3,x4,(x5,x6,x7),x8,x9),(25:Int),l,k,())).fst).fst.snd.snd.snd.snd.fst) (.leaf (Sum.inr (Exit.ret,Lay.st L_sta0_0 noU (false,())))) n6_)))) n6_)))))))) (.leaf (Sum.inr (Exit.exit (0:Nat),Lay.st L_sta0_1 noU ()))):=by
  subst hn6_; subst hn5_; subst hn4_; subst hn3_; subst hn2_; subst hn1_; subst hn0_; kernel_rfl
def inv_sta0:Unit × Unit × Int × Int × Int × Int × Int × Int × List (Int × V) × List (List Int) × Int × List (Int × (Int × (Int × Bool))) × Int × List Int × Int × Unit → Prop:=fun ((),(),i,x0,x1,x2,x3,x4,x5,x6,x7,x8,x9,l,k,()) => SiteV (x0,x1,x2,x3,x4,(x5,x6,x7),x8,x9) ∧ 0 ≤ i ∧ i ≤ 20 ∧ 0 ≤ k ∧ k + 100 * (20 - i) ≤ 500000000
def O_sta0:Unit × Unit × Int × Int × Int × Int × Int × Int × List (Int × V) × List (List Int) × Int × List (Int × (Int × (Int × Bool))) × Int × List Int × Int × Unit → Tree (Exit × St):=fun ((),(),i,x0,x1,x2,x3,x4,x5,x6,x7,x8,x9,l,k,()) => (.leaf (.exit 0,L_sta0_1.st noU ()))
def R_sta0:LRun:=runOf 207 L_sta0 (fun x => x) (inv_sta0) (O_sta0)
set_option maxHeartbeats 8000000 in
theorem K_sta0:LoopOk P [] 207 none noU C_sta0 (R_sta0):=by
  refine loop_of hm (cx:=[c_EntryOf.gc,c_DoX.gc,c_lopen.gc,c_lholds.gc]) [(2,R_sta2)] (xl:=X_sta0) (α:=Unit × Unit × Int × Int × Int × Int × Int × Int × List (Int × V) × List (List Int) × Int × List (Int × (Int × (Int × Bool))) × Int × List Int × Int × Unit) (fun x => x) (fun ((),(),i,x0,x1,x2,x3,x4,x5,x6,x7,x8,x9,l,k,()) => (20 - i).toNat) (fun _ => rfl) (by kernel_rfl) (by kernel_rfl) ?_ (by kernel_rfl) ⟨K_sta2,trivial⟩ ?_
  · intro e S L' h
    unfold X_sta0 at h
    split at h <;> first | (cases h; done) | (cases h; kernel_rfl) | (rcases bif_some h with h | h <;> cases h <;> kernel_rfl)
  · rintro ⟨⟨⟩,⟨⟩,i,x0,x1,x2,x3,x4,x5,x6,x7,x8,x9,l,k,⟨⟩⟩ hinv Q hQ
    refine hold_of_eq (B_sta0 i x0 x1 x2 x3 x4 x5 x6 x7 x8 x9 l k _ rfl _ rfl _ rfl _ rfl _ rfl _ rfl _ rfl) ?_
    obtain ⟨hv,h0,h1,h2,h3⟩:=hinv
    refine ⟨fun c1 => ?_,fun c1 => hQ⟩
    have d1:i < 20:=of_decide_eq_true c1
    have hm:(20 - (i + 1)).toNat < (20 - i).toNat:=by omega
    have hpr:pr_EntryOf ((),(x0,x1,x2,x3,x4,(x5,x6,x7),x8,x9),25,l,k,()):=⟨hv,by decide,by decide,h2,by omega⟩
    have hZ:=S_EntryOf _ hpr
    have hl9:x8.length ≤ 900:=by have:=hv.l4; dsimp only at this; omega
    refine ⟨hpr,⟨⟨hv.sOk,hl9⟩,⟨fun c2 => ?_,fun c2 => ?_⟩⟩⟩
    · rw [W_id (n:=i + 1) (by omega) (by omega)]
      generalize V_EntryOf ((),(x0,x1,x2,x3,x4,(x5,x6,x7),x8,x9),25,l,k,()) = ek at *
      obtain ⟨e,k'⟩:=ek
      obtain ⟨z1,z2⟩ : k ≤ k' ∧ k' ≤ k + 100:=hZ
      exact ⟨⟨⟨hv,by omega,by omega,by dsimp only; omega,by dsimp only; omega⟩,hm⟩,hQ⟩
    have key:∀ t,dS (x0,x1,x2,x3,x4,(x5,x6,x7),x8,x9) (V_EntryOf ((),(x0,x1,x2,x3,x4,(x5,x6,x7),x8,x9),25,l,k,())).1 = (t,0) → chkS t = 0 ∧ StV (x0,x1,x2,x3,x4,(x5,x6,x7),x8,x9) (V_EntryOf ((),(x0,x1,x2,x3,x4,(x5,x6,x7),x8,x9),25,l,k,())).1 t ∧ t.1 = (V_EntryOf ((),(x0,x1,x2,x3,x4,(x5,x6,x7),x8,x9),25,l,k,())).1.1:=fun t h => by
      rw [dS_ok hv.ok] at h
      have g:=do_ok hv.ok h
      exact ⟨g.1,stand_ok hv.ok h,g.2.1⟩
    have key:=key _ (Prod.ext rfl (bneF c2))
    have gv:=chkS_site key.1
    have gt:=(chkS_num key.1).tick
    refine k40_ok (s:=(x0,x1,x2,x3,x4,(x5,x6,x7),x8,x9)) (e:=(V_EntryOf ((),(x0,x1,x2,x3,x4,(x5,x6,x7),x8,x9),25,l,k,())).1) (t:=(dS (x0,x1,x2,x3,x4,(x5,x6,x7),x8,x9) (V_EntryOf ((),(x0,x1,x2,x3,x4,(x5,x6,x7),x8,x9),25,l,k,())).1).1) ?_ ⟨(chkS_all hv.ok).1.hou,hv.sOk.1⟩ ⟨(chkS_all key.1).1.hou,gv.sOk.1⟩ hv.sOk.2 gv.sOk.2 ⟨Int.le_refl 0,Int.natCast_nonneg _,hv.sOk.2⟩ (chkS_num hv.ok).tick.1 (by rw [← key.2.2]; exact gt.2) key.2.1
    show Tree.holds _ (Tree.leaf _)
    rw [W_id (n:=i + 1) (by omega) (by omega)]
    refine ⟨⟨⟨gv,by omega,by omega,?_,?_⟩,hm⟩,hQ⟩
    · exact Int.le_trans h2 hZ.1
    · have:(V_EntryOf ((),(x0,x1,x2,x3,x4,(x5,x6,x7),x8,x9),25,l,k,())).2 ≤ k + 100:=hZ.2
      omega
theorem T_BarrierStands (s0:List Int):fnTree (P:=P) [c_NewRing.gc,c_SiteOf.gc,c_awake.gc] (lpOf [(0,R_sta0)]) Try.f4 (encL 0 [.val tIs] (s0,())) =
  Tree.need (pr_SiteOf ((),s0,(0:Int),())) (.need (inv_sta0 ((),(),(0:Int),(V_SiteOf ((),s0,(0:Int),())).fst.fst,(V_SiteOf ((),s0,(0:Int),())).fst.snd.fst,(V_SiteOf ((),s0,(0:Int),())).fst.snd.snd.fst,(V_SiteOf ((),s0,(0:Int),())).fst.snd.snd.snd.fst,(V_SiteOf ((),s0,(0:Int),())).fst.snd.snd.snd.snd.fst,(V_SiteOf ((),s0,(0:Int),())).fst.snd.snd.snd.snd.snd.fst.fst,(V_SiteOf ((),s0,(0:Int),())).fst.snd.snd.snd.snd.snd.fst.snd.fst,(V_SiteOf ((),s0,(0:Int),())).fst.snd.snd.snd.snd.snd.fst.snd.snd,(V_SiteOf ((),s0,(0:Int),())).fst.snd.snd.snd.snd.snd.snd.fst,(V_SiteOf ((),s0,(0:Int),())).fst.snd.snd.snd.snd.snd.snd.snd,s0,(V_SiteOf ((),s0,(0:Int),())).snd,())) (.leaf (SV.bool true))):=by kernel_rfl
def c_BarrierStands:PC P:=PC.of (α:=List Int × Unit) 4 [.val tIs] (fun x => x) (fun x => x) (fun _ => rfl)
  (fun _ => none)
  (fun x => .bool true) (by kernel_rfl) (by
    rintro ⟨s0,⟨⟩⟩ hp
    refine fn_of hm (by kernel_rfl) (by kernel_rfl) (T_BarrierStands s0) ⟨K_sta0,trivial⟩ ?_
    try dsimp only at hp
    try dsimp only
    have hpr:pr_SiteOf ((),s0,0,()):=⟨by decide,by decide⟩
    have hZ:=S_SiteOf _ hpr
    generalize V_SiteOf ((),s0,0,()) = sk at *
    obtain ⟨⟨t0,t1,t2,t3,t4,⟨t5,t6,t7⟩,t8,t9⟩,k'⟩:=sk
    obtain ⟨z0,z1,z2⟩ : SiteV (t0,t1,t2,t3,t4,(t5,t6,t7),t8,t9) ∧ 0 ≤ k' ∧ k' ≤ 0 + 1000:=hZ
    exact ⟨hpr,⟨⟨z0,by decide,by decide,z1,by dsimp only; omega⟩,rfl⟩⟩)
end
end Go.MB
