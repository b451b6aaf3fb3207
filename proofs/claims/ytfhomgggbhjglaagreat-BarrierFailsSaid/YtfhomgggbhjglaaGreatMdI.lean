/- The law BarrierFails. -/
import Derived.Test.YtfhomgggbhjglaaGreatMdH
namespace Go.MB
open Go Go.Sx Go.Proofs
set_option linter.unusedVariables false
set_option linter.unusedSimpArgs false
noncomputable section
def L_rCopyRw:Lay:={ slots:=[(0,.agg (.pair tI (.pair tI (.pair tI (.pair tI (.pair tI (.pair (.pair (.sl (.pair tI tV)) (.pair (.sl tIs) tI)) (.pair (.sl (.pair tI (.pair tI (.pair tI .bool)))) tI))))))))] }
theorem T_rCopyRw (s_0 s_1 s_2 s_3 s_4:Int) (s_5:List (Int × V)) (s_6:List (List Int)) (s_7:Int) (s_8:List (Int × (Int × (Int × Bool)))) (s_9:Int):mTree (P:=P) [] (lpOf [(0,R_rCopy0)]) Tryz.f15 L_rCopyRw true ((s_0,(s_1,(s_2,(s_3,(s_4,((s_5,(s_6,s_7)),(s_8,s_9))))))),()) =
  Tree.need (List.length s_5 * (32:Nat) ≤ (140737488355328:Nat)) (.need (inv_rCopy0 ((),(),(),(0:Int),s_0,s_1,s_2,s_3,s_4,s_5,s_6,s_7,s_8,s_9,(0:Int),(0:Int),(0:Int),(0:Int),(0:Int),[],[],(0:Int),[],(0:Int),s_5,[],s_7,())) (.need (List.length s_8 * (32:Nat) ≤ (140737488355328:Nat)) (.leaf { res:=SV.agg [SV.int IntKind.i64 s_0,SV.int IntKind.i64 s_1,SV.int IntKind.i64 s_2,SV.int IntKind.i64 s_3,SV.int IntKind.i64 s_4,SV.own (nat_lit 100),SV.own (nat_lit 101),SV.int IntKind.i64 s_7,SV.own (nat_lit 102),SV.int IntKind.i64 s_9],boxes:=[],news:=[Ob.row (47:TypeId) (Ty.pair tI tV) s_5,Ob.row (31:TypeId) tIs s_6,Ob.row (49:Nat) (Ty.pair tI (Ty.pair tI (Ty.pair tI Ty.bool))) s_8] }))):=by kernel_rfl
def c_rCopyRw:MC P:=MC.of (α:=(Int × (Int × (Int × (Int × (Int × ((List (Int × V) × (List (List Int) × Int)) × (List (Int × (Int × (Int × Bool))) × Int))))))) × Unit) 15 L_rCopyRw (fun x => x) (fun x => x) (fun _ => rfl)
  (fun x => some (sOk x.1))
  (fun x => ⟨.agg [.int .i64 x.1.1,.int .i64 x.1.2.1,.int .i64 x.1.2.2.1,.int .i64 x.1.2.2.2.1,.int .i64 x.1.2.2.2.2.1,.own 100,.own 101,.int .i64 x.1.2.2.2.2.2.1.2.2,.own 102,.int .i64 x.1.2.2.2.2.2.2.2],[],[.row 47 tEl x.1.2.2.2.2.2.1.1,.row 31 tIs x.1.2.2.2.2.2.1.2.1,.row 49 tPm x.1.2.2.2.2.2.2.1]⟩) (by kernel_rfl) (by kernel_rfl) (by kernel_rfl) (by
    rintro ⟨⟨s_0,⟨s_1,⟨s_2,⟨s_3,⟨s_4,⟨⟨s_5,⟨s_6,s_7⟩⟩,⟨s_8,s_9⟩⟩⟩⟩⟩⟩⟩,⟨⟩⟩ hp
    refine m_of hm (own:=true) (by kernel_rfl) (by kernel_rfl) (by kernel_rfl) (T_rCopyRw s_0 s_1 s_2 s_3 s_4 s_5 s_6 s_7 s_8 s_9) ⟨K_rCopy0,trivial⟩ ?_
    try dsimp only at hp
    try dsimp only
    obtain ⟨⟨p1,p2,p3⟩,p4⟩ : sOk (s_0,s_1,s_2,s_3,s_4,(s_5,s_6,s_7),s_8,s_9):=hp
    dsimp only at p1 p2 p3 p4
    exact ⟨by omega,⟨by decide,by omega,⟨p2,p3⟩,rfl⟩,by omega,rfl⟩)
def L_OwnHouseR:Lay:={ slots:=[(0,.agg (.pair (.sl (.pair tI tV)) (.pair (.sl tIs) tI)))] }
theorem T_OwnHouseR (h_0:List (Int × V)) (h_1:List (List Int)) (h_2:Int):mTree (P:=P) [c_rCopyRw.gc] (lpOf []) Tryz.f91 L_OwnHouseR true ((h_0,(h_1,h_2)),()) =
  Tree.need (sOk ((0:Int),(0:Int),(0:Int),(0:Int),(0:Int),(h_0,h_1,h_2),[],(0:Int))) (.leaf { res:=SV.agg [SV.own (nat_lit 100),SV.own (nat_lit 101),SV.int IntKind.i64 h_2],boxes:=[],news:=[Ob.row (47:TypeId) tEl h_0,Ob.row (31:TypeId) tIs h_1] }):=by kernel_rfl
def c_OwnHouseR:MC P:=MC.of (α:=(List (Int × V) × (List (List Int) × Int)) × Unit) 91 L_OwnHouseR (fun x => x) (fun x => x) (fun _ => rfl)
  (fun x => some (hOk x.1))
  (fun x => ⟨.agg [.own 100,.own 101,.int .i64 x.1.2.2],[],[.row 47 tEl x.1.1,.row 31 tIs x.1.2.1]⟩) (by kernel_rfl) (by kernel_rfl) (by kernel_rfl) (by
    rintro ⟨⟨h_0,⟨h_1,h_2⟩⟩,⟨⟩⟩ hp
    refine m_of hm (own:=true) (by kernel_rfl) (by kernel_rfl) (by kernel_rfl) (T_OwnHouseR h_0 h_1 h_2) trivial ?_
    try dsimp only at hp
    try dsimp only
    exact ⟨⟨hp,Nat.zero_le _⟩,rfl⟩)
def L_fail0:Lay:={ slots:=[(1,.val tIs),(2,.ptr 3038 0),(4,.ptr 5038 0),(5,.val tI)],boxes:=[(3038,[.row 47 (.pair tI tV),.val (.sl tIs),.val tI]),(5038,[.val (.sl (.pair tI tV)),.val (.sl tIs),.val tI])] }
def L_fail0_0:Lay:={ slots:=[(2,.ptr 3038 0),(4,.ptr 5038 0)],boxes:=[(3038,[.row 47 (.pair tI tV),.val (.sl tIs),.val tI]),(5038,[.val (.sl (.pair tI tV)),.val (.sl tIs),.val tI])] }
def X_fail0:Exit → St → Option Lay
  | .exit 0,_ => some L_fail0_0
  | _,_ => none
abbrev C_fail0:Code:=loopC (bodyOf Tryz.f37) 0
theorem B_fail0 (l:List Int) (i:Int) (els:List (Int × V)) (envs:List (List Int)) (need:Int) (x:List (Int × V)) (y:List (List Int)) (z:Int):loopBodyA (P:=P) [] (lpOf []) [] 38 noU (inner C_fail0) L_fail0 X_fail0 (α:=List Int × Unit × Unit × Int × List (Int × V) × List (List Int) × Int × List (Int × V) × List (List Int) × Int × Unit) (fun x => x) (fun x => x) (l,(),(),i,els,envs,need,x,y,z,()) =
  Tree.cond (decide (i < (l.length:Int))) (.need ((0:Int) ≤ i ∧ i < (l.length:Int)) (.cond (decide (List.getD l (Int.toNat i) (0:Int) ≥ (0:Int))) (.need ((0:Int) ≤ i ∧ i < (l.length:Int)) (.cond (decide (List.getD l (Int.toNat i) (0:Int) < (els.length:Int))) (.need ((0:Int) ≤ i ∧ i < (l.length:Int)) (.need ((0:Int) ≤ List.getD l (Int.toNat i) (0:Int) ∧ List.getD l (Int.toNat i) (0:Int) < (els.length:Int)) (.need (Int.toNat (List.getD l (Int.toNat i) (0:Int)) < List.length els) (.leaf (Sum.inl (l,(),(),IntKind.i64.wrap (i + (1:Int)),List.set els (Int.toNat (List.getD l (Int.toNat i) (0:Int))) ((3:Int),(List.getD els (Int.toNat (List.getD l (Int.toNat i) (0:Int))) (0,0,0,0)).snd),envs,need,x,y,z,())))))) (.leaf (Sum.inl (l,(),(),IntKind.i64.wrap (i + (1:Int)),els,envs,need,x,y,z,()))))) (.leaf (Sum.inl (l,(),(),IntKind.i64.wrap (i + (1:Int)),els,envs,need,x,y,z,()))))) (.leaf (Sum.inr (Exit.exit (0:Nat),Lay.st L_fail0_0 noU ((),(),els,envs,need,x,y,z,())))):=by kernel_rfl
def inv_fail0:List Int × Unit × Unit × Int × List (Int × V) × List (List Int) × Int × List (Int × V) × List (List Int) × Int × Unit → Prop:=fun (l,(),(),i,els,envs,need,x,y,z,()) => 0 ≤ i ∧ i ≤ l.length ∧ l.length ≤ 1000
def O_fail0:List Int × Unit × Unit × Int × List (Int × V) × List (List Int) × Int × List (Int × V) × List (List Int) × Int × Unit → Tree (Exit × St):=fun (l,(),(),i,els,envs,need,x,y,z,()) => (.leaf (.exit 0,L_fail0_0.st noU ((),(),(failS (l.drop i.toNat) els),envs,need,x,y,z,())))
def R_fail0:LRun:=runOf 38 L_fail0 (fun x => x) (inv_fail0) (O_fail0)
theorem K_fail0:LoopOk P [] 38 none noU C_fail0 (R_fail0):=by
  refine loop_of hm (cx:=[]) [] (xl:=X_fail0) (α:=List Int × Unit × Unit × Int × List (Int × V) × List (List Int) × Int × List (Int × V) × List (List Int) × Int × Unit) (fun x => x) (fun (l,(),(),i,els,envs,need,x,y,z,()) => (l.length - i).toNat) (fun _ => rfl) (by kernel_rfl) (by kernel_rfl) ?_ (by kernel_rfl) trivial ?_
  · intro e S L' h
    unfold X_fail0 at h
    split at h <;> first | (cases h; done) | (cases h; kernel_rfl) | (rcases bif_some h with h | h <;> cases h <;> kernel_rfl)
  · rintro ⟨l,⟨⟩,⟨⟩,i,els,envs,need,x,y,z,⟨⟩⟩ hinv Q hQ
    refine hold_of_eq (B_fail0 l i els envs need x y z) ?_
    obtain ⟨h0,h1,h2⟩:=hinv
    unfold O_fail0 at hQ
    dsimp only at hQ
    rw [W_id (n:=i + 1) (by omega) (by omega)]
    refine ⟨fun c1 => ?_,fun c1 => ?_⟩
    · have c1:=of_decide_eq_true c1
      have mm:((l.length:Int) - (i + 1)).toNat < ((l.length:Int) - i).toNat:=by omega
      rw [drop_step (0:Int) h0 c1,failS] at hQ
      have inv:∀ e,inv_fail0 (l,(),(),i + 1,e,envs,need,x,y,z,()):=fun e => ⟨by omega,by omega,h2⟩
      refine ⟨⟨h0,c1⟩,⟨fun c2 => ⟨⟨h0,c1⟩,⟨fun c3 => ⟨⟨h0,c1⟩,⟨of_decide_eq_true c2,of_decide_eq_true c3⟩,?_,?_⟩,fun c3 => ?_⟩⟩,fun c2 => ?_⟩⟩
      · have c2:l.getD i.toNat 0 ≥ 0:=of_decide_eq_true c2
        have c3:l.getD i.toNat 0 < els.length:=of_decide_eq_true c3
        omega
      · rw [if_pos ⟨of_decide_eq_true c2,of_decide_eq_true c3⟩] at hQ
        exact ⟨⟨inv _,mm⟩,hQ⟩
      · rw [if_neg (fun q => of_decide_eq_false c3 q.2)] at hQ
        exact ⟨⟨inv _,mm⟩,hQ⟩
      · rw [if_neg (fun q => of_decide_eq_false c2 q.1)] at hQ
        exact ⟨⟨inv _,mm⟩,hQ⟩
    · rw [drop_end (of_decide_eq_false c1),failS] at hQ
      exact hQ
theorem T_fail (h_0:List (Int × V)) (h_1:List (List Int)) (h_2:Int) (l:List Int):fnTree (P:=P) [c_OwnHouseR.gc] (lpOf [(0,R_fail0)]) Tryz.f37 (encL 0 [.agg (.pair (.sl (.pair tI tV)) (.pair (.sl tIs) tI)),.val tIs] ((h_0,(h_1,h_2)),l,())) =
  Tree.need (hOk (h_0,h_1,h_2)) (.need (inv_fail0 (l,(),(),(0:Int),h_0,h_1,h_2,[],[],(0:Int),())) (.leaf (SV.agg [SV.sl (Ty.pair tI tV) (failS (List.drop (Int.toNat (0:Int)) l) h_0),SV.sl (Ty.sl tI) h_1,SV.int IntKind.i64 h_2]))):=by kernel_rfl
def c_fail:PC P:=PC.of (α:=(List (Int × V) × (List (List Int) × Int)) × List Int × Unit) 37 [.agg (.pair (.sl (.pair tI tV)) (.pair (.sl tIs) tI)),.val tIs] (fun x => x) (fun x => x) (fun _ => rfl)
  (fun x => some (hOk x.1 ∧ x.2.1.length ≤ 1000))
  (fun x => .agg [.sl tEl (failS x.2.1 x.1.1),.sl tIs x.1.2.1,.int .i64 x.1.2.2]) (by kernel_rfl) (by
    rintro ⟨⟨h_0,⟨h_1,h_2⟩⟩,l,⟨⟩⟩ hp
    refine fn_le hm (by kernel_rfl) (by kernel_rfl) (T_fail h_0 h_1 h_2 l) ⟨K_fail0,trivial⟩ (by kernel_rfl) ?_
    try dsimp only at hp
    try dsimp only
    obtain ⟨h1,h2⟩ : hOk (h_0,(h_1,h_2)) ∧ l.length ≤ 1000:=hp
    exact ⟨h1,⟨by decide,by omega,h2⟩,rfl,rfl,rfl,trivial⟩)
theorem cuts_len10 {els:List E4} {envs:List (List Int)} {need tick press:Int} (hb:(prS (els,envs,need) tick press).2 = true) {c:List Int} (hc:c ∈ cutsS (els,envs,need) tick press):c.length ≤ 10:=by
  obtain ⟨s,_,rfl⟩:=((cutsS_ok hb).1.mem c).1 hc
  rw [lsI_len]; exact cnt_le10 s
theorem hit_step {failed c:List Int} {n:Int} (h0:0 ≤ n) (h:n < c.length):hitS failed (c.drop n.toNat) = ((failed.any fun y => y == c.getD n.toNat 0) && hitS failed (c.drop (n + 1).toNat)):=by
  unfold hitS
  rw [drop_step (0:Int) h0 h,List.all_cons]
def FOk (els:List E4) (envs:List (List Int)) (need tick press:Int) (cuts:List (List Int)):Prop :=
  hOk (els,envs,need) ∧ (prS (els,envs,need) tick press).2 = true ∧ cuts = cutsS (els,envs,need) tick press
def L_bfa2:Lay:={ slots:=[(1,.val tI),(2,.val tI),(3,.val tI),(9,.ptr 10175 0),(12,.val (.sl tIs)),(13,.val tI),(16,.val tI)],boxes:=[(10175,[.val (.sl (.pair tI tV)),.val (.sl tIs),.val tI])] }
def L_bfa2_0:Lay:={ slots:=[(8,.val .bool)] }
def L_bfa2_1:Lay:={ slots:=[(1,.val tI),(2,.val tI),(3,.val tI),(9,.ptr 10175 0),(12,.val (.sl tIs)),(13,.val tI)],boxes:=[(10175,[.val (.sl (.pair tI tV)),.val (.sl tIs),.val tI])] }
def X_bfa2:Exit → St → Option Lay
  | .ret,_ => some L_bfa2_0
  | .exit 2,_ => some L_bfa2_1
  | _,_ => none
abbrev C_bfa2:Code:=loopC (inner (loopC (bodyOf Tryz.f7) 0)) 2
theorem B_bfa2 (tick press set:Int) (cuts:List (List Int)) (i k:Int) (els:List (Int × V)) (envs:List (List Int)) (need:Int):loopBodyA (P:=P) [c_fail.gc,c_Proof.gc] (lpOf []) [] 175 noU (inner C_bfa2) L_bfa2 X_bfa2 (α:=Int × Int × Int × Unit × List (List Int) × Int × Int × List (Int × V) × List (List Int) × Int × Unit) (fun x => x) (fun x => x) (tick,press,set,(),cuts,i,k,els,envs,need,()) =
  Tree.need ((0:Int) ≤ i ∧ i < (cuts.length:Int)) (.cond (decide (k < (↑(List.length (List.getD cuts (Int.toNat i) [])):Int))) (.need ((0:Int) ≤ i ∧ i < (cuts.length:Int)) (.need ((0:Int) ≤ (0:Int) ∧ (0:Int) ≤ k ∧ k ≤ (↑(List.length (List.getD cuts (Int.toNat i) [])):Int)) (.need (((0:Nat) + List.length (List.drop (Int.toNat (0:Int)) (List.take (Int.toNat k) (List.getD cuts (Int.toNat i) [])))) * (8:Nat) ≤ (140737488355328:Nat)) (.need ((0:Int) ≤ i ∧ i < (cuts.length:Int)) (.need ((0:Int) ≤ IntKind.i64.wrap (k + (1:Int)) ∧ IntKind.i64.wrap (k + (1:Int)) ≤ (↑(List.length (List.getD cuts (Int.toNat i) [])):Int) ∧ (↑(List.length (List.getD cuts (Int.toNat i) [])):Int) ≤ (↑(List.length (List.getD cuts (Int.toNat i) [])):Int)) (.need ((List.length (List.drop (Int.toNat (0:Int)) (List.take (Int.toNat k) (List.getD cuts (Int.toNat i) []))) + List.length (List.drop (Int.toNat (IntKind.i64.wrap (k + (1:Int)))) (List.take (Int.toNat (↑(List.length (List.getD cuts (Int.toNat i) [])):Int)) (List.getD cuts (Int.toNat i) [])))) * (8:Nat) ≤ (140737488355328:Nat)) (.need (hOk (els,envs,need) ∧ List.length (List.drop (Int.toNat (0:Int)) (List.take (Int.toNat k) (List.getD cuts (Int.toNat i) [])) ++ List.drop (Int.toNat (IntKind.i64.wrap (k + (1:Int)))) (List.take (Int.toNat (↑(List.length (List.getD cuts (Int.toNat i) [])):Int)) (List.getD cuts (Int.toNat i) []))) ≤ (1000:Nat)) (.need (hOk (failS (List.drop (Int.toNat (0:Int)) (List.take (Int.toNat k) (List.getD cuts (Int.toNat i) [])) ++ List.drop (Int.toNat (IntKind.i64.wrap (k + (1:Int)))) (List.take (Int.toNat (↑(List.length (List.getD cuts (Int.toNat i) [])):Int)) (List.getD cuts (Int.toNat i) []))) els,envs,need)) (.cond (!(prS (failS (List.drop (Int.toNat (0:Int)) (List.take (Int.toNat k) (List.getD cuts (Int.toNat i) [])) ++ List.drop (Int.toNat (IntKind.i64.wrap (k + (1:Int)))) (List.take (Int.toNat (↑(List.length (List.getD cuts (Int.toNat i) [])):Int)) (List.getD cuts (Int.toNat i) []))) els,envs,need) tick press).snd) (.leaf (Sum.inr (Exit.ret,Lay.st L_bfa2_0 noU (false,())))) (.leaf (Sum.inl (tick,press,set,(),cuts,i,IntKind.i64.wrap (k + (1:Int)),els,envs,need,())))))))))))) (.leaf (Sum.inr (Exit.exit (2:Nat),Lay.st L_bfa2_1 noU (tick,press,set,(),cuts,i,els,envs,need,()))))):=by kernel_rfl
def inv_bfa2:Int × Int × Int × Unit × List (List Int) × Int × Int × List (Int × V) × List (List Int) × Int × Unit → Prop:=fun (tick,press,set,(),cuts,i,k,els,envs,need,()) => FOk els envs need tick press cuts ∧ 0 ≤ i ∧ i < cuts.length ∧ 0 ≤ k ∧ k ≤ (cuts.getD i.toNat []).length
def O_bfa2:Int × Int × Int × Unit × List (List Int) × Int × Int × List (Int × V) × List (List Int) × Int × Unit → Tree (Exit × St):=fun (tick,press,set,(),cuts,i,k,els,envs,need,()) => (.leaf (.exit 2,L_bfa2_1.st noU (tick,press,set,(),cuts,i,els,envs,need,())))
def R_bfa2:LRun:=runOf 175 L_bfa2 (fun x => x) (inv_bfa2) (O_bfa2)
theorem K_bfa2:LoopOk P [] 175 none noU C_bfa2 (R_bfa2):=by
  refine loop_of hm (cx:=[c_fail.gc,c_Proof.gc]) [] (xl:=X_bfa2) (α:=Int × Int × Int × Unit × List (List Int) × Int × Int × List (Int × V) × List (List Int) × Int × Unit) (fun x => x) (fun (tick,press,set,(),cuts,i,k,els,envs,need,()) => ((cuts.getD i.toNat []).length - k).toNat) (fun _ => rfl) (by kernel_rfl) (by kernel_rfl) ?_ (by kernel_rfl) trivial ?_
  · intro e S L' h
    unfold X_bfa2 at h
    split at h <;> first | (cases h; done) | (cases h; kernel_rfl) | (rcases bif_some h with h | h <;> cases h <;> kernel_rfl)
  · rintro ⟨tick,press,set,⟨⟩,cuts,i,k,els,envs,need,⟨⟩⟩ hinv Q hQ
    refine hold_of_eq (B_bfa2 tick press set cuts i k els envs need) ?_
    obtain ⟨⟨g1,g2,g3⟩,h0,h1,h2,h3⟩:=hinv
    have hc:cuts.getD i.toNat [] ∈ cutsS (els,envs,need) tick press:=by rw [← g3]; exact getD_mem (by omega)
    have hl:=cuts_len10 g2 hc
    have a1:0 ≤ i ∧ i < (cuts.length:Int):=⟨h0,h1⟩
    rw [W_id (n:=k + 1) (by omega) (by omega)]
    refine ⟨a1,⟨fun c1 => ?_,fun c1 => hQ⟩⟩
    have c1:=of_decide_eq_true c1
    have hk:k.toNat < (cuts.getD i.toNat []).length:=by omega
    have hls:=less_holds g2 hc hk
    rw [show List.drop (Int.toNat 0) (List.take k.toNat (cuts.getD i.toNat [])) = List.take k.toNat (cuts.getD i.toNat []) from rfl,Int.toNat_natCast,List.take_length,show (k + 1).toNat = k.toNat + 1 by omega,hls]
    have l1:(List.take k.toNat (cuts.getD i.toNat [])).length ≤ 10:=by rw [List.length_take]; omega
    have l2:(List.drop (k.toNat + 1) (cuts.getD i.toNat [])).length ≤ 10:=by rw [List.length_drop]; omega
    exact ⟨a1,⟨by omega,h2,h3⟩,by omega,a1,⟨by omega,by omega,by omega⟩,by omega,⟨g1,by rw [List.length_append]; omega⟩,failS_hOk g1,⟨fun c2 => (by cases c2),fun c2 => ⟨⟨⟨⟨g1,g2,g3⟩,h0,h1,by omega,by omega⟩,by show (((cuts.getD i.toNat []).length:Int) - (k + 1)).toNat < (((cuts.getD i.toNat []).length:Int) - k).toNat; omega⟩,hQ⟩⟩⟩
def L_bfa0:Lay:={ slots:=[(1,.val tI),(2,.val tI),(3,.val tI),(9,.ptr 10175 0),(12,.val (.sl tIs)),(13,.val tI)],boxes:=[(10175,[.val (.sl (.pair tI tV)),.val (.sl tIs),.val tI])] }
def L_bfa0_0:Lay:={ slots:=[(8,.val .bool)] }
def L_bfa0_1:Lay:={ slots:=[(1,.val tI),(2,.val tI),(3,.val tI),(9,.ptr 10175 0),(12,.val (.sl tIs))],boxes:=[(10175,[.val (.sl (.pair tI tV)),.val (.sl tIs),.val tI])] }
def X_bfa0:Exit → St → Option Lay
  | .ret,_ => some L_bfa0_0
  | .exit 0,_ => some L_bfa0_1
  | _,_ => none
abbrev C_bfa0:Code:=loopC (bodyOf Tryz.f7) 0
theorem B_bfa0 (tick press set:Int) (cuts:List (List Int)) (i:Int) (els:List (Int × V)) (envs:List (List Int)) (need:Int):loopBodyA (P:=P) [c_fail.gc,c_Proof.gc] (lpOf [(2,R_bfa2)]) [] 175 noU (inner C_bfa0) L_bfa0 X_bfa0 (α:=Int × Int × Int × Unit × List (List Int) × Int × List (Int × V) × List (List Int) × Int × Unit) (fun x => x) (fun x => x) (tick,press,set,(),cuts,i,els,envs,need,()) =
  Tree.cond (decide (i < (cuts.length:Int))) (.need ((0:Int) ≤ i ∧ i < (cuts.length:Int)) (.need (hOk (els,envs,need) ∧ List.length (List.getD cuts (Int.toNat i) []) ≤ (1000:Nat)) (.need (hOk (failS (List.getD cuts (Int.toNat i) []) els,envs,need)) (.cond (prS (failS (List.getD cuts (Int.toNat i) []) els,envs,need) tick press).snd (.leaf (Sum.inr (Exit.ret,Lay.st L_bfa0_0 noU (false,())))) (.need (inv_bfa2 (tick,press,set,(),cuts,i,(0:Int),els,envs,need,())) (.leaf (Sum.inl (tick,press,set,(),cuts,IntKind.i64.wrap (i + (1:Int)),els,envs,need,())))))))) (.leaf (Sum.inr (Exit.exit (0:Nat),Lay.st L_bfa0_1 noU (tick,press,set,(),cuts,els,envs,need,())))):=by kernel_rfl
def inv_bfa0:Int × Int × Int × Unit × List (List Int) × Int × List (Int × V) × List (List Int) × Int × Unit → Prop:=fun (tick,press,set,(),cuts,i,els,envs,need,()) => FOk els envs need tick press cuts ∧ 0 ≤ i ∧ i ≤ cuts.length
def O_bfa0:Int × Int × Int × Unit × List (List Int) × Int × List (Int × V) × List (List Int) × Int × Unit → Tree (Exit × St):=fun (tick,press,set,(),cuts,i,els,envs,need,()) => (.leaf (.exit 0,L_bfa0_1.st noU (tick,press,set,(),cuts,els,envs,need,())))
def R_bfa0:LRun:=runOf 175 L_bfa0 (fun x => x) (inv_bfa0) (O_bfa0)
theorem K_bfa0:LoopOk P [] 175 none noU C_bfa0 (R_bfa0):=by
  refine loop_of hm (cx:=[c_fail.gc,c_Proof.gc]) [(2,R_bfa2)] (xl:=X_bfa0) (α:=Int × Int × Int × Unit × List (List Int) × Int × List (Int × V) × List (List Int) × Int × Unit) (fun x => x) (fun (tick,press,set,(),cuts,i,els,envs,need,()) => (cuts.length - i).toNat) (fun _ => rfl) (by kernel_rfl) (by kernel_rfl) ?_ (by kernel_rfl) ⟨K_bfa2,trivial⟩ ?_
  · intro e S L' h
    unfold X_bfa0 at h
    split at h <;> first | (cases h; done) | (cases h; kernel_rfl) | (rcases bif_some h with h | h <;> cases h <;> kernel_rfl)
  · rintro ⟨tick,press,set,⟨⟩,cuts,i,els,envs,need,⟨⟩⟩ hinv Q hQ
    refine hold_of_eq (B_bfa0 tick press set cuts i els envs need) ?_
    obtain ⟨⟨g1,g2,g3⟩,h0,h1⟩:=hinv
    have hcl:=(cutsS_len (els,envs,need) tick press).1
    rw [← g3] at hcl
    rw [W_id (n:=i + 1) (by omega) (by omega)]
    refine ⟨fun c1 => ?_,fun c1 => hQ⟩
    have c1:=of_decide_eq_true c1
    have hc:cuts.getD i.toNat [] ∈ cutsS (els,envs,need) tick press:=by rw [← g3]; exact getD_mem (by omega)
    have hl:=cuts_len10 g2 hc
    rw [cut_breaks g2 hc]
    exact ⟨⟨h0,c1⟩,⟨g1,by omega⟩,failS_hOk g1,⟨fun c2 => (by cases c2),fun c2 => ⟨⟨⟨g1,g2,g3⟩,h0,c1,by decide,by omega⟩,⟨⟨⟨g1,g2,g3⟩,by omega,by omega⟩,by show ((cuts.length:Int) - (i + 1)).toNat < ((cuts.length:Int) - i).toNat; omega⟩,hQ⟩⟩⟩
def L_bfa4:Lay:={ slots:=[(1,.val tI),(2,.val tI),(3,.val tI),(9,.ptr 10175 0),(12,.val (.sl tIs)),(20,.row 3 tI),(21,.val tI)],boxes:=[(10175,[.val (.sl (.pair tI tV)),.val (.sl tIs),.val tI])] }
def L_bfa4_0:Lay:={ slots:=[(1,.val tI),(2,.val tI),(9,.ptr 10175 0),(12,.val (.sl tIs)),(20,.row 3 tI)],boxes:=[(10175,[.val (.sl (.pair tI tV)),.val (.sl tIs),.val tI])] }
def X_bfa4:Exit → St → Option Lay
  | .exit 4,_ => some L_bfa4_0
  | _,_ => none
abbrev C_bfa4:Code:=loopC (bodyOf Tryz.f7) 4
theorem B_bfa4 (tick press set:Int) (cuts:List (List Int)) (failed:List Int) (m:Int) (els:List (Int × V)) (envs:List (List Int)) (need:Int):loopBodyA (P:=P) [c_Mod.gc] (lpOf []) [] 175 noU (inner C_bfa4) L_bfa4 X_bfa4 (α:=Int × Int × Int × Unit × List (List Int) × List Int × Int × List (Int × V) × List (List Int) × Int × Unit) (fun x => x) (fun x => x) (tick,press,set,(),cuts,failed,m,els,envs,need,()) =
  Tree.cond (decide (m < (els.length:Int))) (.need ((0:Int) ≤ m) (.need ((0:Int) < (2:Int) ∧ R64 (2:Int)) (.cond (shrI IntKind.i64 set m % (2:Int) == (1:Int)) (.need ((List.length failed + List.length [m]) * (8:Nat) ≤ (140737488355328:Nat)) (.leaf (Sum.inl (tick,press,set,(),cuts,failed ++ [m],IntKind.i64.wrap (m + (1:Int)),els,envs,need,())))) (.leaf (Sum.inl (tick,press,set,(),cuts,failed,IntKind.i64.wrap (m + (1:Int)),els,envs,need,())))))) (.leaf (Sum.inr (Exit.exit (4:Nat),Lay.st L_bfa4_0 noU (tick,press,(),cuts,failed,els,envs,need,())))):=by kernel_rfl
def inv_bfa4:Int × Int × Int × Unit × List (List Int) × List Int × Int × List (Int × V) × List (List Int) × Int × Unit → Prop:=fun (tick,press,set,(),cuts,failed,m,els,envs,need,()) => els.length ≤ 10 ∧ 0 ≤ m ∧ m ≤ els.length ∧ (failed.length:Int) ≤ m
def O_bfa4:Int × Int × Int × Unit × List (List Int) × List Int × Int × List (Int × V) × List (List Int) × Int × Unit → Tree (Exit × St):=fun (tick,press,set,(),cuts,failed,m,els,envs,need,()) => (.leaf (.exit 4,L_bfa4_0.st noU (tick,press,(),cuts,(failed ++ fdS set (els.length - m).toNat m),els,envs,need,())))
def R_bfa4:LRun:=runOf 175 L_bfa4 (fun x => x) (inv_bfa4) (O_bfa4)
theorem K_bfa4:LoopOk P [] 175 none noU C_bfa4 (R_bfa4):=by
  refine loop_of hm (cx:=[c_Mod.gc]) [] (xl:=X_bfa4) (α:=Int × Int × Int × Unit × List (List Int) × List Int × Int × List (Int × V) × List (List Int) × Int × Unit) (fun x => x) (fun (tick,press,set,(),cuts,failed,m,els,envs,need,()) => (els.length - m).toNat) (fun _ => rfl) (by kernel_rfl) (by kernel_rfl) ?_ (by kernel_rfl) trivial ?_
  · intro e S L' h
    unfold X_bfa4 at h
    split at h <;> first | (cases h; done) | (cases h; kernel_rfl) | (rcases bif_some h with h | h <;> cases h <;> kernel_rfl)
  · rintro ⟨tick,press,set,⟨⟩,cuts,failed,m,els,envs,need,⟨⟩⟩ hinv Q hQ
    refine hold_of_eq (B_bfa4 tick press set cuts failed m els envs need) ?_
    obtain ⟨h0,h1,h2,h3⟩:=hinv
    unfold O_bfa4 at hQ
    dsimp only at hQ
    rw [W_id (n:=m + 1) (by omega) (by omega)]
    refine ⟨fun c1 => ?_,fun c1 => ?_⟩
    · have c1:=of_decide_eq_true c1
      have mm:((els.length:Int) - (m + 1)).toNat < ((els.length:Int) - m).toNat:=by omega
      rw [show ((els.length:Int) - m).toNat = ((els.length:Int) - (m + 1)).toNat + 1 by omega,fdS] at hQ
      refine ⟨h1,⟨by decide,by decide,by decide⟩,⟨fun c2 => ⟨by simp only [List.length_cons,List.length_nil]; omega,?_⟩,fun c2 => ?_⟩⟩
      · rw [if_pos (by simpa using c2),List.append_cons] at hQ
        exact ⟨⟨⟨h0,by omega,by omega,by simp only [List.length_append,List.length_cons,List.length_nil]; omega⟩,mm⟩,hQ⟩
      · rw [if_neg (by simpa using c2)] at hQ
        exact ⟨⟨⟨h0,by omega,by omega,by omega⟩,mm⟩,hQ⟩
    · have c1:=of_decide_eq_false c1
      rw [show ((els.length:Int) - m).toNat = 0 by omega,fdS,List.append_nil] at hQ
      exact hQ
def L_bfa8:Lay:={ slots:=[(1,.val tI),(2,.val tI),(9,.ptr 10175 0),(12,.val (.sl tIs)),(20,.row 3 tI),(22,.val .bool),(23,.val tI),(24,.val .bool),(25,.val tI)],boxes:=[(10175,[.val (.sl (.pair tI tV)),.val (.sl tIs),.val tI])] }
def L_bfa8_0:Lay:={ slots:=[(1,.val tI),(2,.val tI),(9,.ptr 10175 0),(12,.val (.sl tIs)),(20,.row 3 tI),(22,.val .bool),(23,.val tI),(24,.val .bool)],boxes:=[(10175,[.val (.sl (.pair tI tV)),.val (.sl tIs),.val tI])] }
def X_bfa8:Exit → St → Option Lay
  | .exit 8,_ => some L_bfa8_0
  | _,_ => none
abbrev C_bfa8:Code:=loopC (inner (loopC (bodyOf Tryz.f7) 6)) 8
theorem B_bfa8 (tick press:Int) (cuts:List (List Int)) (failed:List Int) (hit:Bool) (j:Int) (all:Bool) (n:Int) (els:List (Int × V)) (envs:List (List Int)) (need:Int):loopBodyA (P:=P) [c_HasInt.gc] (lpOf []) [] 175 noU (inner C_bfa8) L_bfa8 X_bfa8 (α:=Int × Int × Unit × List (List Int) × List Int × Bool × Int × Bool × Int × List (Int × V) × List (List Int) × Int × Unit) (fun x => x) (fun x => x) (tick,press,(),cuts,failed,hit,j,all,n,els,envs,need,()) =
  Tree.need ((0:Int) ≤ j ∧ j < (cuts.length:Int)) (.cond (decide (n < (↑(List.length (List.getD cuts (Int.toNat j) [])):Int))) (.cond all (.need ((0:Int) ≤ j ∧ j < (cuts.length:Int)) (.need ((0:Int) ≤ n ∧ n < (↑(List.length (List.getD cuts (Int.toNat j) [])):Int)) (.need (List.length failed ≤ (1000:Nat)) (.leaf (Sum.inl (tick,press,(),cuts,failed,hit,j,List.any failed fun y => y == List.getD (List.getD cuts (Int.toNat j) []) (Int.toNat n) (0:Int),IntKind.i64.wrap (n + (1:Int)),els,envs,need,())))))) (.leaf (Sum.inl (tick,press,(),cuts,failed,hit,j,false,IntKind.i64.wrap (n + (1:Int)),els,envs,need,())))) (.leaf (Sum.inr (Exit.exit (8:Nat),Lay.st L_bfa8_0 noU (tick,press,(),cuts,failed,hit,j,all,els,envs,need,()))))):=by kernel_rfl
def inv_bfa8:Int × Int × Unit × List (List Int) × List Int × Bool × Int × Bool × Int × List (Int × V) × List (List Int) × Int × Unit → Prop:=fun (tick,press,(),cuts,failed,hit,j,all,n,els,envs,need,()) => 0 ≤ j ∧ j < cuts.length ∧ 0 ≤ n ∧ n ≤ (cuts.getD j.toNat []).length ∧ failed.length ≤ 1000 ∧ (cuts.getD j.toNat []).length ≤ 1000
def O_bfa8:Int × Int × Unit × List (List Int) × List Int × Bool × Int × Bool × Int × List (Int × V) × List (List Int) × Int × Unit → Tree (Exit × St):=fun (tick,press,(),cuts,failed,hit,j,all,n,els,envs,need,()) => (.leaf (.exit 8,L_bfa8_0.st noU (tick,press,(),cuts,failed,hit,j,(all && hitS failed ((cuts.getD j.toNat []).drop n.toNat)),els,envs,need,())))
def R_bfa8:LRun:=runOf 175 L_bfa8 (fun x => x) (inv_bfa8) (O_bfa8)
theorem K_bfa8:LoopOk P [] 175 none noU C_bfa8 (R_bfa8):=by
  refine loop_of hm (cx:=[c_HasInt.gc]) [] (xl:=X_bfa8) (α:=Int × Int × Unit × List (List Int) × List Int × Bool × Int × Bool × Int × List (Int × V) × List (List Int) × Int × Unit) (fun x => x) (fun (tick,press,(),cuts,failed,hit,j,all,n,els,envs,need,()) => ((cuts.getD j.toNat []).length - n).toNat) (fun _ => rfl) (by kernel_rfl) (by kernel_rfl) ?_ (by kernel_rfl) trivial ?_
  · intro e S L' h
    unfold X_bfa8 at h
    split at h <;> first | (cases h; done) | (cases h; kernel_rfl) | (rcases bif_some h with h | h <;> cases h <;> kernel_rfl)
  · rintro ⟨tick,press,⟨⟩,cuts,failed,hit,j,all,n,els,envs,need,⟨⟩⟩ hinv Q hQ
    refine hold_of_eq (B_bfa8 tick press cuts failed hit j all n els envs need) ?_
    obtain ⟨h0,h1,h2,h3,h4,h5⟩:=hinv
    unfold O_bfa8 at hQ
    dsimp only at hQ
    rw [W_id (n:=n + 1) (by omega) (by omega)]
    refine ⟨⟨h0,h1⟩,⟨fun c1 => ?_,fun c1 => ?_⟩⟩
    · have c1:=of_decide_eq_true c1
      have mm:(((cuts.getD j.toNat []).length:Int) - (n + 1)).toNat < (((cuts.getD j.toNat []).length:Int) - n).toNat:=by omega
      rw [hit_step h2 c1] at hQ
      refine ⟨fun c2 => ⟨⟨h0,h1⟩,⟨h2,c1⟩,h4,?_⟩,fun c2 => ?_⟩
      · rw [show all = true from c2,Bool.true_and] at hQ
        exact ⟨⟨⟨h0,h1,by omega,by omega,h4,h5⟩,mm⟩,hQ⟩
      · rw [show all = false from c2,Bool.false_and] at hQ
        refine ⟨⟨⟨h0,h1,by omega,by omega,h4,h5⟩,mm⟩,?_⟩
        unfold O_bfa8
        dsimp only
        rw [Bool.false_and]
        exact hQ
    · rw [drop_end (of_decide_eq_false c1),show hitS failed [] = true from rfl,Bool.and_true] at hQ
      exact hQ
def L_bfa6:Lay:={ slots:=[(1,.val tI),(2,.val tI),(9,.ptr 10175 0),(12,.val (.sl tIs)),(20,.row 3 tI),(22,.val .bool),(23,.val tI)],boxes:=[(10175,[.val (.sl (.pair tI tV)),.val (.sl tIs),.val tI])] }
def L_bfa6_0:Lay:={ slots:=[(1,.val tI),(2,.val tI),(9,.ptr 10175 0),(20,.row 3 tI),(22,.val .bool)],boxes:=[(10175,[.val (.sl (.pair tI tV)),.val (.sl tIs),.val tI])] }
def X_bfa6:Exit → St → Option Lay
  | .exit 6,_ => some L_bfa6_0
  | _,_ => none
abbrev C_bfa6:Code:=loopC (bodyOf Tryz.f7) 6
theorem B_bfa6 (tick press:Int) (cuts:List (List Int)) (failed:List Int) (hit:Bool) (j:Int) (els:List (Int × V)) (envs:List (List Int)) (need:Int):loopBodyA (P:=P) [] (lpOf [(8,R_bfa8)]) [] 175 noU (inner C_bfa6) L_bfa6 X_bfa6 (α:=Int × Int × Unit × List (List Int) × List Int × Bool × Int × List (Int × V) × List (List Int) × Int × Unit) (fun x => x) (fun x => x) (tick,press,(),cuts,failed,hit,j,els,envs,need,()) =
  Tree.cond (decide (j < (cuts.length:Int))) (.need (inv_bfa8 (tick,press,(),cuts,failed,hit,j,true,(0:Int),els,envs,need,())) (.cond hit (.leaf (Sum.inl (tick,press,(),cuts,failed,true,IntKind.i64.wrap (j + (1:Int)),els,envs,need,()))) (.leaf (Sum.inl (tick,press,(),cuts,failed,true && hitS failed (List.drop (Int.toNat (0:Int)) (List.getD cuts (Int.toNat j) [])),IntKind.i64.wrap (j + (1:Int)),els,envs,need,()))))) (.leaf (Sum.inr (Exit.exit (6:Nat),Lay.st L_bfa6_0 noU (tick,press,(),failed,hit,els,envs,need,())))):=by kernel_rfl
def inv_bfa6:Int × Int × Unit × List (List Int) × List Int × Bool × Int × List (Int × V) × List (List Int) × Int × Unit → Prop:=fun (tick,press,(),cuts,failed,hit,j,els,envs,need,()) => 0 ≤ j ∧ j ≤ cuts.length ∧ failed.length ≤ 1000 ∧ (cuts.length:Int) < 2 ^ 62 ∧ ∀ q ∈ cuts,q.length ≤ 1000
def O_bfa6:Int × Int × Unit × List (List Int) × List Int × Bool × Int × List (Int × V) × List (List Int) × Int × Unit → Tree (Exit × St):=fun (tick,press,(),cuts,failed,hit,j,els,envs,need,()) => (.leaf (.exit 6,L_bfa6_0.st noU (tick,press,(),failed,(hit || (cuts.drop j.toNat).any (hitS failed)),els,envs,need,())))
def R_bfa6:LRun:=runOf 175 L_bfa6 (fun x => x) (inv_bfa6) (O_bfa6)
theorem K_bfa6:LoopOk P [] 175 none noU C_bfa6 (R_bfa6):=by
  refine loop_of hm (cx:=[]) [(8,R_bfa8)] (xl:=X_bfa6) (α:=Int × Int × Unit × List (List Int) × List Int × Bool × Int × List (Int × V) × List (List Int) × Int × Unit) (fun x => x) (fun (tick,press,(),cuts,failed,hit,j,els,envs,need,()) => (cuts.length - j).toNat) (fun _ => rfl) (by kernel_rfl) (by kernel_rfl) ?_ (by kernel_rfl) ⟨K_bfa8,trivial⟩ ?_
  · intro e S L' h
    unfold X_bfa6 at h
    split at h <;> first | (cases h; done) | (cases h; kernel_rfl) | (rcases bif_some h with h | h <;> cases h <;> kernel_rfl)
  · rintro ⟨tick,press,⟨⟩,cuts,failed,hit,j,els,envs,need,⟨⟩⟩ hinv Q hQ
    refine hold_of_eq (B_bfa6 tick press cuts failed hit j els envs need) ?_
    obtain ⟨h0,h1,h2,h3,h4⟩:=hinv
    unfold O_bfa6 at hQ
    dsimp only at hQ
    rw [W_id (n:=j + 1) (by omega) (by omega)]
    refine ⟨fun c1 => ?_,fun c1 => ?_⟩
    · have c1:=of_decide_eq_true c1
      have mm:((cuts.length:Int) - (j + 1)).toNat < ((cuts.length:Int) - j).toNat:=by omega
      rw [drop_step ([] : List Int) h0 c1,List.any_cons] at hQ
      have hq:=h4 _ (getD_mem (d:=([] : List Int)) (show j.toNat < cuts.length by omega))
      refine ⟨⟨h0,c1,by decide,by omega,h2,hq⟩,⟨fun c2 => ?_,fun c2 => ?_⟩⟩
      · rw [show hit = true from c2,Bool.true_or] at hQ
        refine ⟨⟨⟨by omega,by omega,h2,h3,h4⟩,mm⟩,?_⟩
        unfold O_bfa6
        dsimp only
        rw [Bool.true_or]
        exact hQ
      · rw [show hit = false from c2,Bool.false_or] at hQ
        refine ⟨⟨⟨by omega,by omega,h2,h3,h4⟩,mm⟩,?_⟩
        unfold O_bfa6
        dsimp only
        rw [Bool.true_and]
        exact hQ
    · rw [drop_end (of_decide_eq_false c1),List.any_nil,Bool.or_false] at hQ
      exact hQ
theorem T_BarrierFails (nums:List Int) (tick press set:Int):fnTree (P:=P) [c_NewRing.gc,c_HouseOf.gc,c_Mod64.gc,c_Proof.gc,c_Cuts.gc,c_awake.gc,c_fail.gc] (lpOf [(0,R_bfa0),(4,R_bfa4),(6,R_bfa6)]) Tryz.f7 (encL 0 [.val tIs,.val tI,.val tI,.val tI] (nums,tick,press,set,())) =
  Tree.need ((0:Int) ≤ (0:Int) ∧ (0:Int) ≤ (500000000:Int)) (.need ((0:Int) < (90:Int) ∧ R64 (90:Int)) (.need ((0:Int) < (1200:Int) ∧ R64 (1200:Int)) (.need (hOk (houK nums (0:Int))) (.need (hOk (houK nums (0:Int))) (.cond (!(prS (houK nums (0:Int)) (tick % (90:Int)) (press % (1200:Int))).snd) (.cond ((↑(List.length (cutsS (houK nums (0:Int)) (tick % (90:Int)) (press % (1200:Int)))):Int) == (0:Int)) (.leaf (SV.bool true)) (.leaf (SV.bool false))) (.cond ((↑(List.length (cutsS (houK nums (0:Int)) (tick % (90:Int)) (press % (1200:Int)))):Int) == (0:Int)) (.leaf (SV.bool false)) (.need (inv_bfa0 (tick % (90:Int),press % (1200:Int),set,(),cutsS (houK nums (0:Int)) (tick % (90:Int)) (press % (1200:Int)),(0:Int),(houK nums (0:Int)).fst,(houK nums (0:Int)).snd.fst,(houK nums (0:Int)).snd.snd,())) (.need (inv_bfa4 (tick % (90:Int),press % (1200:Int),set,(),cutsS (houK nums (0:Int)) (tick % (90:Int)) (press % (1200:Int)),[],(0:Int),(houK nums (0:Int)).fst,(houK nums (0:Int)).snd.fst,(houK nums (0:Int)).snd.snd,())) (.need (inv_bfa6 (tick % (90:Int),press % (1200:Int),(),cutsS (houK nums (0:Int)) (tick % (90:Int)) (press % (1200:Int)),fdS set (Int.toNat ((↑(List.length (houK nums (0:Int)).fst):Int) - (0:Int))) (0:Int),false,(0:Int),(houK nums (0:Int)).fst,(houK nums (0:Int)).snd.fst,(houK nums (0:Int)).snd.snd,())) (.need (hOk (houK nums (0:Int)) ∧ List.length (fdS set (Int.toNat ((↑(List.length (houK nums (0:Int)).fst):Int) - (0:Int))) (0:Int)) ≤ (1000:Nat)) (.need (hOk (failS (fdS set (Int.toNat ((↑(List.length (houK nums (0:Int)).fst):Int) - (0:Int))) (0:Int)) (houK nums (0:Int)).fst,(houK nums (0:Int)).snd)) (.cond ((prS (failS (fdS set (Int.toNat ((↑(List.length (houK nums (0:Int)).fst):Int) - (0:Int))) (0:Int)) (houK nums (0:Int)).fst,(houK nums (0:Int)).snd) (tick % (90:Int)) (press % (1200:Int))).snd == !(false || List.any (List.drop (Int.toNat (0:Int)) (cutsS (houK nums (0:Int)) (tick % (90:Int)) (press % (1200:Int)))) (hitS (fdS set (Int.toNat ((↑(List.length (houK nums (0:Int)).fst):Int) - (0:Int))) (0:Int))))) (.leaf (SV.bool true)) (.leaf (SV.bool false)))))))))))))):=by kernel_rfl
def c_BarrierFails:PC P:=PC.of (α:=List Int × Int × Int × Int × Unit) 7 [.val tIs,.val tI,.val tI,.val tI] (fun x => x) (fun x => x) (fun _ => rfl)
  (fun _ => none)
  (fun x => .bool true) (by kernel_rfl) (by
    rintro ⟨nums,tick,press,set,⟨⟩⟩ hp
    refine fn_of hm (by kernel_rfl) (by kernel_rfl) (T_BarrierFails nums tick press set) ⟨K_bfa0,K_bfa4,K_bfa6,trivial⟩ ?_
    try dsimp only at hp
    try dsimp only
    have hk:=houK_hOk nums (k:=0) (by decide)
    obtain ⟨⟨_,k6⟩,_⟩:=houK_ok nums (k:=0) (by decide)
    generalize houK nums 0 = h at *
    obtain ⟨els,envs,need⟩:=h
    dsimp only at k6
    generalize tick % 90 = t at *
    generalize press % 1200 = p at *
    have hcl:=(cutsS_len (els,envs,need) t p).1
    cases c:(prS (els,envs,need) t p).2 with
    | false =>
      rw [cutsS_none c]
      exact ⟨by decide,⟨by decide,by decide,by decide⟩,⟨by decide,by decide,by decide⟩,hk,hk,⟨fun _ => ⟨fun _ => rfl,fun h => (by cases h)⟩,fun h => (by cases h)⟩⟩
    | true =>
      have hne:cutsS (els,envs,need) t p ≠ []:=fun q => by
        obtain ⟨hc,h1,h2⟩:=cutsS_ok c
        have k:=houseE_ok h1
        have k10:=k.e10
        dsimp only at k10
        have hN:2 ^ els.length ≤ 2 ^ 10:=Nat.pow_le_pow_right (by decide) k10
        have hW:=wkS_lt (els,envs,need) t p
        dsimp only at hW
        have e:=fails_ok c (failed:=(List.range els.length).map fun (j:Nat) => (j:Int)) (fun x hx => by
          obtain ⟨j,hj,rfl⟩:=List.mem_map.1 hx
          have:=List.mem_range.1 hj
          omega)
        rw [q,List.any_nil,Bool.not_false] at e
        obtain ⟨_,e2⟩:=prS_two.1 e
        obtain ⟨x,hx,hx2⟩:=holds_some (houseE_ok (failS_house h1)) e2
        obtain ⟨j,hj⟩:=List.mem_iff_getElem?.1 hx
        dsimp only at hj
        rw [failS_at] at hj
        cases cj:els[j]? with
        | none => rw [cj] at hj; cases hj
        | some y =>
          have hjl:=(List.getElem?_eq_some_iff.1 cj).1
          rw [cj,Option.map_some,if_pos (by rw [List.any_eq_true]; exact ⟨(j:Int),List.mem_map.2 ⟨j,List.mem_range.2 hjl,rfl⟩,by simp⟩)] at hj
          cases hj
          have:=(effS_iff.1 hx2).1
          exact absurd this (by show ¬ (3:Int) = 2; decide)
      have hf:∀ x ∈ fdS set ((els.length:Int) - 0).toNat 0,0 ≤ x ∧ x < els.length:=fun x hx => by
        have:=fdS_rng set _ _ x hx
        omega
      have hfl:=fdS_len set ((els.length:Int) - 0).toNat 0
      have hfin:=fails_ok c hf
      have k10' : els.length ≤ 10:=by omega
      have hfl' : (fdS set ((els.length:Int) - 0).toNat 0).length ≤ 1000:=by omega
      have ee:∀ z:Bool,(z == z) = true:=fun z => by simp
      rw [show List.drop (Int.toNat 0) (cutsS (els,envs,need) t p) = cutsS (els,envs,need) t p from rfl,Bool.false_or,hfin,ee]
      exact ⟨by decide,⟨by decide,by decide,by decide⟩,⟨by decide,by decide,by decide⟩,hk,hk,⟨fun h => (by cases h),fun _ => ⟨fun h => absurd (List.length_eq_zero_iff.1 (by simpa using h)) hne,fun _ => ⟨⟨⟨hk,c,rfl⟩,by decide,by omega⟩,⟨k10',by decide,Int.natCast_nonneg _,by decide⟩,⟨by decide,Int.natCast_nonneg _,hfl',hcl,fun q hq => by have:=cuts_len10 c hq; omega⟩,⟨hk,hfl'⟩,failS_hOk hk,⟨fun _ => rfl,fun h => (by cases h)⟩⟩⟩⟩⟩)
end
end Go.MB
