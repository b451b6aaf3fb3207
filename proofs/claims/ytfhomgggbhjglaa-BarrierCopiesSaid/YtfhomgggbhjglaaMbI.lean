/- What the laws are made with: numbers, copies, equal sites. -/
import Derived.Test.YtfhomgggbhjglaaMbH
namespace Go.MB
open Go Go.Sx Go.Proofs
set_option linter.unusedVariables false
set_option linter.unusedSimpArgs false
noncomputable section
theorem take_step {α:Type} (d:α) {l:List α} {i:Int} (h0:0 ≤ i) (h:i < l.length):l.take i.toNat ++ [l.getD i.toNat d] = l.take (i + 1).toNat:=by
  have h1:i.toNat < l.length:=by omega
  rw [show (i + 1).toNat = i.toNat + 1 by omega,List.take_add_one,List.getD_eq_getElem?_getD,List.getElem?_eq_getElem h1]
  rfl
def sameH (a b:Hs):Bool:=decide (a.1 = b.1) && (decide (a.2.1 = b.2.1) && decide (a.2.2 = b.2.2))
def sameB (a b:Site):Bool:=decide (a.1 = b.1) && (decide (a.2.1 = b.2.1) && (decide (a.2.2.1 = b.2.2.1) && (decide (a.2.2.2.1 = b.2.2.2.1) && (decide (a.2.2.2.2.1 = b.2.2.2.2.1) && (sameH a.2.2.2.2.2.1 b.2.2.2.2.2.1 && (decide (a.2.2.2.2.2.2.1 = b.2.2.2.2.2.2.1) && decide (a.2.2.2.2.2.2.2 = b.2.2.2.2.2.2.2)))))))
theorem sameB_iff {a b:Site}:sameB a b = true ↔ a = b:=by
  obtain ⟨a0,a1,a2,a3,a4,⟨a5,a6,a7⟩,a8,a9⟩:=a
  obtain ⟨b0,b1,b2,b3,b4,⟨b5,b6,b7⟩,b8,b9⟩:=b
  unfold sameB sameH
  simp
def bigH (h:Hs):Bool:=decide ((h.1.length:Int) > 12) || (decide ((h.2.1.length:Int) > 10) || h.2.1.any fun q => decide ((q.length:Int) > 12))
theorem e4_eq (x y:E4):(x.1 == y.1 && (x.2.1 == y.2.1 && (x.2.2.1 == y.2.2.1 && (x.2.2.2 == y.2.2.2 && true)))) = decide (x = y):=by
  obtain ⟨a,b,c,d⟩:=x
  obtain ⟨e,f,g,h⟩:=y
  rw [Bool.eq_iff_iff]
  simp
theorem pm_eq (x y:Pm):(x.1 == y.1 && (x.2.1 == y.2.1 && (x.2.2.1 == y.2.2.1 && (x.2.2.2 == y.2.2.2 && true)))) = decide (x = y):=by
  obtain ⟨a,b,c,d⟩:=x
  obtain ⟨e,f,g,h⟩:=y
  rw [Bool.eq_iff_iff]
  simp
def L_rCopy0:Lay:={ slots:=[(1,.ptr 2040 0),(2,.ptr 3040 0),(3,.ptr 4040 0),(4,.val tI)],boxes:=[(2040,[.val tI,.val tI,.val tI,.val tI,.val tI,.val (.sl (.pair tI tV)),.val (.sl tIs),.val tI,.val (.sl (.pair tI (.pair tI (.pair tI .bool)))),.val tI]),(3040,[.val tI,.val tI,.val tI,.val tI,.val tI,.val (.sl (.pair tI tV)),.val (.sl tIs),.val tI,.val (.sl (.pair tI (.pair tI (.pair tI .bool)))),.val tI]),(4040,[.row 70 (.pair tI tV),.row 22 tIs,.val tI])] }
def L_rCopy0_0:Lay:={ slots:=[(1,.ptr 2040 0),(2,.ptr 3040 0),(3,.ptr 4040 0)],boxes:=[(2040,[.val tI,.val tI,.val tI,.val tI,.val tI,.val (.sl (.pair tI tV)),.val (.sl tIs),.val tI,.val (.sl (.pair tI (.pair tI (.pair tI .bool)))),.val tI]),(3040,[.val tI,.val tI,.val tI,.val tI,.val tI,.val (.sl (.pair tI tV)),.val (.sl tIs),.val tI,.val (.sl (.pair tI (.pair tI (.pair tI .bool)))),.val tI]),(4040,[.row 70 (.pair tI tV),.row 22 tIs,.val tI])] }
def X_rCopy0:Exit → St → Option Lay
  | .exit 0,_ => some L_rCopy0_0
  | _,_ => none
abbrev C_rCopy0:Code:=loopC (bodyOf Try.f18) 0
theorem B_rCopy0 (i b1_0 b1_1 b1_2 b1_3 b1_4:Int) (b1_5:List (Int × V)) (envs:List (List Int)) (b1_7:Int) (b1_8:List (Int × (Int × (Int × Bool)))) (b1_9 b2_0 b2_1 b2_2 b2_3 b2_4:Int) (b2_5:List (Int × V)) (b2_6:List (List Int)) (b2_7:Int) (b2_8:List (Int × (Int × (Int × Bool)))) (b2_9:Int) (els:List (Int × V)) (out:List (List Int)) (b3_2:Int):loopBodyA (P:=P) [] (lpOf []) [] 40 noU (inner C_rCopy0) L_rCopy0 X_rCopy0 (α:=Unit × Unit × Unit × Int × Int × Int × Int × Int × Int × List (Int × V) × List (List Int) × Int × List (Int × (Int × (Int × Bool))) × Int × Int × Int × Int × Int × Int × List (Int × V) × List (List Int) × Int × List (Int × (Int × (Int × Bool))) × Int × List (Int × V) × List (List Int) × Int × Unit) (fun x => x) (fun x => x) ((),(),(),i,b1_0,b1_1,b1_2,b1_3,b1_4,b1_5,envs,b1_7,b1_8,b1_9,b2_0,b2_1,b2_2,b2_3,b2_4,b2_5,b2_6,b2_7,b2_8,b2_9,els,out,b3_2,()) =
  Tree.cond (decide (i < (envs.length:Int))) (.need ((0:Int) ≤ i ∧ i < (envs.length:Int)) (.need (List.length (List.getD envs (Int.toNat i) []) * (8:Nat) ≤ (140737488355328:Nat)) (.need ((List.length out + List.length [List.getD envs (Int.toNat i) []]) * (24:Nat) ≤ (140737488355328:Nat)) (.leaf (Sum.inl ((),(),(),IntKind.i64.wrap (i + (1:Int)),b1_0,b1_1,b1_2,b1_3,b1_4,b1_5,envs,b1_7,b1_8,b1_9,b2_0,b2_1,b2_2,b2_3,b2_4,b2_5,b2_6,b2_7,b2_8,b2_9,els,out ++ [List.getD envs (Int.toNat i) []],b3_2,())))))) (.leaf (Sum.inr (Exit.exit (0:Nat),Lay.st L_rCopy0_0 noU ((),(),(),b1_0,b1_1,b1_2,b1_3,b1_4,b1_5,envs,b1_7,b1_8,b1_9,b2_0,b2_1,b2_2,b2_3,b2_4,b2_5,b2_6,b2_7,b2_8,b2_9,els,out,b3_2,())))):=by kernel_rfl
def inv_rCopy0:Unit × Unit × Unit × Int × Int × Int × Int × Int × Int × List (Int × V) × List (List Int) × Int × List (Int × (Int × (Int × Bool))) × Int × Int × Int × Int × Int × Int × List (Int × V) × List (List Int) × Int × List (Int × (Int × (Int × Bool))) × Int × List (Int × V) × List (List Int) × Int × Unit → Prop:=fun ((),(),(),i,b1_0,b1_1,b1_2,b1_3,b1_4,b1_5,envs,b1_7,b1_8,b1_9,b2_0,b2_1,b2_2,b2_3,b2_4,b2_5,b2_6,b2_7,b2_8,b2_9,els,out,b3_2,()) => 0 ≤ i ∧ i ≤ envs.length ∧ (envs.length ≤ 1000 ∧ ∀ q ∈ envs,q.length ≤ 1000) ∧ out = envs.take i.toNat
def O_rCopy0:Unit × Unit × Unit × Int × Int × Int × Int × Int × Int × List (Int × V) × List (List Int) × Int × List (Int × (Int × (Int × Bool))) × Int × Int × Int × Int × Int × Int × List (Int × V) × List (List Int) × Int × List (Int × (Int × (Int × Bool))) × Int × List (Int × V) × List (List Int) × Int × Unit → Tree (Exit × St):=fun ((),(),(),i,b1_0,b1_1,b1_2,b1_3,b1_4,b1_5,envs,b1_7,b1_8,b1_9,b2_0,b2_1,b2_2,b2_3,b2_4,b2_5,b2_6,b2_7,b2_8,b2_9,els,out,b3_2,()) => (.leaf (.exit 0,L_rCopy0_0.st noU ((),(),(),b1_0,b1_1,b1_2,b1_3,b1_4,b1_5,envs,b1_7,b1_8,b1_9,b2_0,b2_1,b2_2,b2_3,b2_4,b2_5,b2_6,b2_7,b2_8,b2_9,els,(envs),b3_2,())))
def R_rCopy0:LRun:=runOf 40 L_rCopy0 (fun x => x) (inv_rCopy0) (O_rCopy0)
theorem K_rCopy0:LoopOk P [] 40 none noU C_rCopy0 (R_rCopy0):=by
  refine loop_of hm (cx:=[]) [] (xl:=X_rCopy0) (α:=Unit × Unit × Unit × Int × Int × Int × Int × Int × Int × List (Int × V) × List (List Int) × Int × List (Int × (Int × (Int × Bool))) × Int × Int × Int × Int × Int × Int × List (Int × V) × List (List Int) × Int × List (Int × (Int × (Int × Bool))) × Int × List (Int × V) × List (List Int) × Int × Unit) (fun x => x) (fun ((),(),(),i,b1_0,b1_1,b1_2,b1_3,b1_4,b1_5,envs,b1_7,b1_8,b1_9,b2_0,b2_1,b2_2,b2_3,b2_4,b2_5,b2_6,b2_7,b2_8,b2_9,els,out,b3_2,()) => ((envs.length:Int) - i).toNat) (fun _ => rfl) (by kernel_rfl) (by kernel_rfl) ?_ (by kernel_rfl) trivial ?_
  · intro e S L' h
    unfold X_rCopy0 at h
    split at h <;> first | (cases h; done) | (cases h; kernel_rfl) | (rcases bif_some h with h | h <;> cases h <;> kernel_rfl)
  · rintro ⟨⟨⟩,⟨⟩,⟨⟩,i,b1_0,b1_1,b1_2,b1_3,b1_4,b1_5,envs,b1_7,b1_8,b1_9,b2_0,b2_1,b2_2,b2_3,b2_4,b2_5,b2_6,b2_7,b2_8,b2_9,els,out,b3_2,⟨⟩⟩ hinv Q hQ
    refine hold_of_eq (B_rCopy0 i b1_0 b1_1 b1_2 b1_3 b1_4 b1_5 envs b1_7 b1_8 b1_9 b2_0 b2_1 b2_2 b2_3 b2_4 b2_5 b2_6 b2_7 b2_8 b2_9 els out b3_2) ?_
    obtain ⟨h0,h1,⟨h2,h3⟩,rfl⟩:=hinv
    rw [W_id (n:=i + 1) (by omega) (by omega)]
    refine ⟨fun c1 => ?_,fun c1 => ?_⟩
    · have c1:=of_decide_eq_true c1
      have h4:=h3 _ (getD_mem (d:=([] : List Int)) (show i.toNat < envs.length by omega))
      refine ⟨⟨h0,c1⟩,by omega,?_,⟨⟨by omega,by omega,⟨h2,h3⟩,take_step [] h0 c1⟩,by show ((envs.length:Int) - (i + 1)).toNat < ((envs.length:Int) - i).toNat; omega⟩,hQ⟩
      rw [List.length_take,List.length_singleton]; omega
    · have c1:=of_decide_eq_false c1
      have e:envs.take i.toNat = envs:=List.take_of_length_le (by omega)
      rw [e]
      exact hQ
theorem T_rCopy (s_0 s_1 s_2 s_3 s_4:Int) (s_5:List (Int × V)) (s_6:List (List Int)) (s_7:Int) (s_8:List (Int × (Int × (Int × Bool)))) (s_9:Int):fnTree (P:=P) [] (lpOf [(0,R_rCopy0)]) Try.f18 (encL 0 [.agg (.pair tI (.pair tI (.pair tI (.pair tI (.pair tI (.pair (.pair (.sl (.pair tI tV)) (.pair (.sl tIs) tI)) (.pair (.sl (.pair tI (.pair tI (.pair tI .bool)))) tI)))))))] ((s_0,(s_1,(s_2,(s_3,(s_4,((s_5,(s_6,s_7)),(s_8,s_9))))))),())) =
  Tree.need (List.length s_5 * (32:Nat) ≤ (140737488355328:Nat)) (.need (inv_rCopy0 ((),(),(),(0:Int),s_0,s_1,s_2,s_3,s_4,s_5,s_6,s_7,s_8,s_9,(0:Int),(0:Int),(0:Int),(0:Int),(0:Int),[],[],(0:Int),[],(0:Int),s_5,[],s_7,())) (.need (List.length s_8 * (32:Nat) ≤ (140737488355328:Nat)) (.leaf (SV.agg [SV.int IntKind.i64 s_0,SV.int IntKind.i64 s_1,SV.int IntKind.i64 s_2,SV.int IntKind.i64 s_3,SV.int IntKind.i64 s_4,SV.sl (Ty.pair tI tV) s_5,SV.sl (Ty.sl tI) s_6,SV.int IntKind.i64 s_7,SV.sl (Ty.pair tI (Ty.pair tI (Ty.pair tI Ty.bool))) s_8,SV.int IntKind.i64 s_9])))):=by kernel_rfl
def c_rCopy:PC P:=PC.of (α:=(Int × (Int × (Int × (Int × (Int × ((List (Int × V) × (List (List Int) × Int)) × (List (Int × (Int × (Int × Bool))) × Int))))))) × Unit) 18 [.agg (.pair tI (.pair tI (.pair tI (.pair tI (.pair tI (.pair (.pair (.sl (.pair tI tV)) (.pair (.sl tIs) tI)) (.pair (.sl (.pair tI (.pair tI (.pair tI .bool)))) tI)))))))] (fun x => x) (fun x => x) (fun _ => rfl)
  (fun x => some (sOk x.1))
  (fun x => .agg [.int .i64 x.1.1,.int .i64 x.1.2.1,.int .i64 x.1.2.2.1,.int .i64 x.1.2.2.2.1,.int .i64 x.1.2.2.2.2.1,.sl tEl x.1.2.2.2.2.2.1.1,.sl tIs x.1.2.2.2.2.2.1.2.1,.int .i64 x.1.2.2.2.2.2.1.2.2,.sl tPm x.1.2.2.2.2.2.2.1,.int .i64 x.1.2.2.2.2.2.2.2]) (by kernel_rfl) (by
    rintro ⟨⟨s_0,⟨s_1,⟨s_2,⟨s_3,⟨s_4,⟨⟨s_5,⟨s_6,s_7⟩⟩,⟨s_8,s_9⟩⟩⟩⟩⟩⟩⟩,⟨⟩⟩ hp
    refine fn_le hm (by kernel_rfl) (by kernel_rfl) (T_rCopy s_0 s_1 s_2 s_3 s_4 s_5 s_6 s_7 s_8 s_9) ⟨K_rCopy0,trivial⟩ (by kernel_rfl) ?_
    try dsimp only at hp
    try dsimp only
    obtain ⟨⟨p1,p2,p3⟩,p4⟩ : sOk (s_0,s_1,s_2,s_3,s_4,(s_5,s_6,s_7),s_8,s_9):=hp
    dsimp only at p1 p2 p3 p4
    exact ⟨by omega,⟨by decide,by omega,⟨p2,p3⟩,rfl⟩,by omega,rfl,rfl,rfl,rfl,rfl,rfl,rfl,rfl,rfl,rfl,trivial⟩)
theorem eqd_step {α:Type} [DecidableEq α] (d:α) {a b:List α} {i:Int} (h0:0 ≤ i) (h:i < a.length) (hl:a.length = b.length):decide (a.drop i.toNat = b.drop i.toNat) = (decide (a.getD i.toNat d = b.getD i.toNat d) && decide (a.drop (i + 1).toNat = b.drop (i + 1).toNat)):=by
  rw [drop_step d h0 h,drop_step d h0 (by omega:i < b.length)]
  rw [Bool.eq_iff_iff]
  simp
theorem eqd_end {α:Type} [DecidableEq α] {a b:List α} {i:Int} (h:¬ i < a.length) (hl:a.length = b.length):decide (a.drop i.toNat = b.drop i.toNat) = true:=by
  rw [drop_end h,drop_end (l:=b) (by omega)]; simp
def L_rSame0:Lay:={ slots:=[(2,.ptr 3168 0),(3,.ptr 4168 0),(5,.val tI)],boxes:=[(3168,[.val tI,.val tI,.val tI,.val tI,.val tI,.val (.sl (.pair tI tV)),.val (.sl tIs),.val tI,.val (.sl (.pair tI (.pair tI (.pair tI .bool)))),.val tI]),(4168,[.val tI,.val tI,.val tI,.val tI,.val tI,.val (.sl (.pair tI tV)),.val (.sl tIs),.val tI,.val (.sl (.pair tI (.pair tI (.pair tI .bool)))),.val tI])] }
def L_rSame0_0:Lay:={ slots:=[(4,.val .bool)] }
def L_rSame0_1:Lay:={ slots:=[(2,.ptr 3168 0),(3,.ptr 4168 0)],boxes:=[(3168,[.val tI,.val tI,.val tI,.val tI,.val tI,.val (.sl (.pair tI tV)),.val (.sl tIs),.val tI,.val (.sl (.pair tI (.pair tI (.pair tI .bool)))),.val tI]),(4168,[.val tI,.val tI,.val tI,.val tI,.val tI,.val (.sl (.pair tI tV)),.val (.sl tIs),.val tI,.val (.sl (.pair tI (.pair tI (.pair tI .bool)))),.val tI])] }
def X_rSame0:Exit → St → Option Lay
  | .ret,_ => some L_rSame0_0
  | .exit 0,_ => some L_rSame0_1
  | _,_ => none
abbrev C_rSame0:Code:=loopC (bodyOf Try.f19) 0
theorem B_rSame0 (i a0 a1 a2 a3 a4:Int) (a5:List (Int × V)) (a6:List (List Int)) (a7:Int) (a8:List (Int × (Int × (Int × Bool)))) (a9 b0 b1 b2 b3 b4:Int) (b5:List (Int × V)) (b6:List (List Int)) (b7:Int) (b8:List (Int × (Int × (Int × Bool)))) (b9:Int):loopBodyA (P:=P) [] (lpOf []) [] 168 noU (inner C_rSame0) L_rSame0 X_rSame0 (α:=Unit × Unit × Int × Int × Int × Int × Int × Int × List (Int × V) × List (List Int) × Int × List (Int × (Int × (Int × Bool))) × Int × Int × Int × Int × Int × Int × List (Int × V) × List (List Int) × Int × List (Int × (Int × (Int × Bool))) × Int × Unit) (fun x => x) (fun x => x) ((),(),i,a0,a1,a2,a3,a4,a5,a6,a7,a8,a9,b0,b1,b2,b3,b4,b5,b6,b7,b8,b9,()) =
  Tree.cond (decide (i < (a5.length:Int))) (.need ((0:Int) ≤ i ∧ i < (a5.length:Int)) (.need ((0:Int) ≤ i ∧ i < (b5.length:Int)) (.cond (!((List.getD a5 (Int.toNat i) (0,0,0,0)).fst == (List.getD b5 (Int.toNat i) (0,0,0,0)).fst && ((List.getD a5 (Int.toNat i) (0,0,0,0)).snd.fst == (List.getD b5 (Int.toNat i) (0,0,0,0)).snd.fst && ((List.getD a5 (Int.toNat i) (0,0,0,0)).snd.snd.fst == (List.getD b5 (Int.toNat i) (0,0,0,0)).snd.snd.fst && ((List.getD a5 (Int.toNat i) (0,0,0,0)).snd.snd.snd == (List.getD b5 (Int.toNat i) (0,0,0,0)).snd.snd.snd && true))))) (.leaf (Sum.inr (Exit.ret,Lay.st L_rSame0_0 noU (false,())))) (.leaf (Sum.inl ((),(),IntKind.i64.wrap (i + (1:Int)),a0,a1,a2,a3,a4,a5,a6,a7,a8,a9,b0,b1,b2,b3,b4,b5,b6,b7,b8,b9,())))))) (.leaf (Sum.inr (Exit.exit (0:Nat),Lay.st L_rSame0_1 noU ((),(),a0,a1,a2,a3,a4,a5,a6,a7,a8,a9,b0,b1,b2,b3,b4,b5,b6,b7,b8,b9,())))):=by kernel_rfl
def inv_rSame0:Unit × Unit × Int × Int × Int × Int × Int × Int × List (Int × V) × List (List Int) × Int × List (Int × (Int × (Int × Bool))) × Int × Int × Int × Int × Int × Int × List (Int × V) × List (List Int) × Int × List (Int × (Int × (Int × Bool))) × Int × Unit → Prop:=fun ((),(),i,a0,a1,a2,a3,a4,a5,a6,a7,a8,a9,b0,b1,b2,b3,b4,b5,b6,b7,b8,b9,()) => 0 ≤ i ∧ i ≤ a5.length ∧ a5.length = b5.length ∧ a5.length ≤ 1000
def O_rSame0:Unit × Unit × Int × Int × Int × Int × Int × Int × List (Int × V) × List (List Int) × Int × List (Int × (Int × (Int × Bool))) × Int × Int × Int × Int × Int × Int × List (Int × V) × List (List Int) × Int × List (Int × (Int × (Int × Bool))) × Int × Unit → Tree (Exit × St):=fun ((),(),i,a0,a1,a2,a3,a4,a5,a6,a7,a8,a9,b0,b1,b2,b3,b4,b5,b6,b7,b8,b9,()) => .cond (decide (a5.drop i.toNat = b5.drop i.toNat)) (.leaf (.exit 0,L_rSame0_1.st noU ((),(),a0,a1,a2,a3,a4,a5,a6,a7,a8,a9,b0,b1,b2,b3,b4,b5,b6,b7,b8,b9,()))) (.leaf (.ret,L_rSame0_0.st noU ((false),())))
def R_rSame0:LRun:=runOf 168 L_rSame0 (fun x => x) (inv_rSame0) (O_rSame0)
theorem K_rSame0:LoopOk P [] 168 none noU C_rSame0 (R_rSame0):=by
  refine loop_of hm (cx:=[]) [] (xl:=X_rSame0) (α:=Unit × Unit × Int × Int × Int × Int × Int × Int × List (Int × V) × List (List Int) × Int × List (Int × (Int × (Int × Bool))) × Int × Int × Int × Int × Int × Int × List (Int × V) × List (List Int) × Int × List (Int × (Int × (Int × Bool))) × Int × Unit) (fun x => x) (fun ((),(),i,a0,a1,a2,a3,a4,a5,a6,a7,a8,a9,b0,b1,b2,b3,b4,b5,b6,b7,b8,b9,()) => ((a5.length:Int) - i).toNat) (fun _ => rfl) (by kernel_rfl) (by kernel_rfl) ?_ (by kernel_rfl) trivial ?_
  · intro e S L' h
    unfold X_rSame0 at h
    split at h <;> first | (cases h; done) | (cases h; kernel_rfl) | (rcases bif_some h with h | h <;> cases h <;> kernel_rfl)
  · rintro ⟨⟨⟩,⟨⟩,i,a0,a1,a2,a3,a4,a5,a6,a7,a8,a9,b0,b1,b2,b3,b4,b5,b6,b7,b8,b9,⟨⟩⟩ hinv Q hQ
    refine hold_of_eq (B_rSame0 i a0 a1 a2 a3 a4 a5 a6 a7 a8 a9 b0 b1 b2 b3 b4 b5 b6 b7 b8 b9) ?_
    obtain ⟨h0,h1,h2,h3⟩:=hinv
    rw [W_id (n:=i + 1) (by omega) (by omega)]
    unfold O_rSame0 at hQ
    dsimp only at hQ
    refine ⟨fun d1 => ?_,fun d1 => ?_⟩
    · have d1:=of_decide_eq_true d1
      rw [eqd_step (0,0,0,0) h0 d1 h2] at hQ
      rw [e4_eq]
      refine ⟨⟨h0,d1⟩,⟨h0,by omega⟩,fun d2 => ?_,fun d2 => ?_⟩
      · have e:decide (a5.getD i.toNat (0,0,0,0) = b5.getD i.toNat (0,0,0,0)) = false:=by simpa using d2
        rw [e,Bool.false_and] at hQ
        exact hQ.2 rfl
      · have e:decide (a5.getD i.toNat (0,0,0,0) = b5.getD i.toNat (0,0,0,0)) = true:=by simpa using d2
        rw [e,Bool.true_and] at hQ
        exact ⟨⟨⟨by omega,by omega,h2,h3⟩,by show ((a5.length:Int) - (i + 1)).toNat < ((a5.length:Int) - i).toNat; omega⟩,hQ⟩
    · have d1:=of_decide_eq_false d1
      rw [eqd_end d1 h2] at hQ
      exact hQ.1 rfl
def L_rSame24:Lay:={ slots:=[(2,.ptr 3168 0),(3,.ptr 4168 0),(6,.val tI),(7,.val tIs),(8,.val tIs),(9,.val tI)],boxes:=[(3168,[.val tI,.val tI,.val tI,.val tI,.val tI,.val (.sl (.pair tI tV)),.val (.sl tIs),.val tI,.val (.sl (.pair tI (.pair tI (.pair tI .bool)))),.val tI]),(4168,[.val tI,.val tI,.val tI,.val tI,.val tI,.val (.sl (.pair tI tV)),.val (.sl tIs),.val tI,.val (.sl (.pair tI (.pair tI (.pair tI .bool)))),.val tI])] }
def L_rSame24_0:Lay:={ slots:=[(4,.val .bool)] }
def L_rSame24_1:Lay:={ slots:=[(2,.ptr 3168 0),(3,.ptr 4168 0),(6,.val tI)],boxes:=[(3168,[.val tI,.val tI,.val tI,.val tI,.val tI,.val (.sl (.pair tI tV)),.val (.sl tIs),.val tI,.val (.sl (.pair tI (.pair tI (.pair tI .bool)))),.val tI]),(4168,[.val tI,.val tI,.val tI,.val tI,.val tI,.val (.sl (.pair tI tV)),.val (.sl tIs),.val tI,.val (.sl (.pair tI (.pair tI (.pair tI .bool)))),.val tI])] }
def X_rSame24:Exit → St → Option Lay
  | .ret,_ => some L_rSame24_0
  | .exit 4,_ => some L_rSame24_1
  | _,_ => none
abbrev C_rSame24:Code:=loopC (inner (loopC (bodyOf Try.f19) 2)) 4
theorem B_rSame24 (j:Int) (x y:List Int) (k a0 a1 a2 a3 a4:Int) (a5:List (Int × V)) (a6:List (List Int)) (a7:Int) (a8:List (Int × (Int × (Int × Bool)))) (a9 b0 b1 b2 b3 b4:Int) (b5:List (Int × V)) (b6:List (List Int)) (b7:Int) (b8:List (Int × (Int × (Int × Bool)))) (b9:Int):loopBodyA (P:=P) [] (lpOf []) [] 168 noU (inner C_rSame24) L_rSame24 X_rSame24 (α:=Unit × Unit × Int × List Int × List Int × Int × Int × Int × Int × Int × Int × List (Int × V) × List (List Int) × Int × List (Int × (Int × (Int × Bool))) × Int × Int × Int × Int × Int × Int × List (Int × V) × List (List Int) × Int × List (Int × (Int × (Int × Bool))) × Int × Unit) (fun x => x) (fun x => x) ((),(),j,x,y,k,a0,a1,a2,a3,a4,a5,a6,a7,a8,a9,b0,b1,b2,b3,b4,b5,b6,b7,b8,b9,()) =
  Tree.cond (decide (k < (x.length:Int))) (.need ((0:Int) ≤ k ∧ k < (x.length:Int)) (.need ((0:Int) ≤ k ∧ k < (y.length:Int)) (.cond (List.getD x (Int.toNat k) (0:Int) != List.getD y (Int.toNat k) (0:Int)) (.leaf (Sum.inr (Exit.ret,Lay.st L_rSame24_0 noU (false,())))) (.leaf (Sum.inl ((),(),j,x,y,IntKind.i64.wrap (k + (1:Int)),a0,a1,a2,a3,a4,a5,a6,a7,a8,a9,b0,b1,b2,b3,b4,b5,b6,b7,b8,b9,())))))) (.leaf (Sum.inr (Exit.exit (4:Nat),Lay.st L_rSame24_1 noU ((),(),j,a0,a1,a2,a3,a4,a5,a6,a7,a8,a9,b0,b1,b2,b3,b4,b5,b6,b7,b8,b9,())))):=by kernel_rfl
def inv_rSame24:Unit × Unit × Int × List Int × List Int × Int × Int × Int × Int × Int × Int × List (Int × V) × List (List Int) × Int × List (Int × (Int × (Int × Bool))) × Int × Int × Int × Int × Int × Int × List (Int × V) × List (List Int) × Int × List (Int × (Int × (Int × Bool))) × Int × Unit → Prop:=fun ((),(),j,x,y,k,a0,a1,a2,a3,a4,a5,a6,a7,a8,a9,b0,b1,b2,b3,b4,b5,b6,b7,b8,b9,()) => 0 ≤ k ∧ k ≤ x.length ∧ x.length = y.length ∧ x.length ≤ 1000
def O_rSame24:Unit × Unit × Int × List Int × List Int × Int × Int × Int × Int × Int × Int × List (Int × V) × List (List Int) × Int × List (Int × (Int × (Int × Bool))) × Int × Int × Int × Int × Int × Int × List (Int × V) × List (List Int) × Int × List (Int × (Int × (Int × Bool))) × Int × Unit → Tree (Exit × St):=fun ((),(),j,x,y,k,a0,a1,a2,a3,a4,a5,a6,a7,a8,a9,b0,b1,b2,b3,b4,b5,b6,b7,b8,b9,()) => .cond (decide (x.drop k.toNat = y.drop k.toNat)) (.leaf (.exit 4,L_rSame24_1.st noU ((),(),j,a0,a1,a2,a3,a4,a5,a6,a7,a8,a9,b0,b1,b2,b3,b4,b5,b6,b7,b8,b9,()))) (.leaf (.ret,L_rSame24_0.st noU ((false),())))
def R_rSame24:LRun:=runOf 168 L_rSame24 (fun x => x) (inv_rSame24) (O_rSame24)
theorem K_rSame24:LoopOk P [] 168 none noU C_rSame24 (R_rSame24):=by
  refine loop_of hm (cx:=[]) [] (xl:=X_rSame24) (α:=Unit × Unit × Int × List Int × List Int × Int × Int × Int × Int × Int × Int × List (Int × V) × List (List Int) × Int × List (Int × (Int × (Int × Bool))) × Int × Int × Int × Int × Int × Int × List (Int × V) × List (List Int) × Int × List (Int × (Int × (Int × Bool))) × Int × Unit) (fun x => x) (fun ((),(),j,x,y,k,a0,a1,a2,a3,a4,a5,a6,a7,a8,a9,b0,b1,b2,b3,b4,b5,b6,b7,b8,b9,()) => ((x.length:Int) - k).toNat) (fun _ => rfl) (by kernel_rfl) (by kernel_rfl) ?_ (by kernel_rfl) trivial ?_
  · intro e S L' h
    unfold X_rSame24 at h
    split at h <;> first | (cases h; done) | (cases h; kernel_rfl) | (rcases bif_some h with h | h <;> cases h <;> kernel_rfl)
  · rintro ⟨⟨⟩,⟨⟩,j,x,y,k,a0,a1,a2,a3,a4,a5,a6,a7,a8,a9,b0,b1,b2,b3,b4,b5,b6,b7,b8,b9,⟨⟩⟩ hinv Q hQ
    refine hold_of_eq (B_rSame24 j x y k a0 a1 a2 a3 a4 a5 a6 a7 a8 a9 b0 b1 b2 b3 b4 b5 b6 b7 b8 b9) ?_
    obtain ⟨h0,h1,h2,h3⟩:=hinv
    rw [W_id (n:=k + 1) (by omega) (by omega)]
    unfold O_rSame24 at hQ
    dsimp only at hQ
    refine ⟨fun d1 => ?_,fun d1 => ?_⟩
    · have d1:=of_decide_eq_true d1
      rw [eqd_step 0 h0 d1 h2] at hQ
      refine ⟨⟨h0,d1⟩,⟨h0,by omega⟩,fun d2 => ?_,fun d2 => ?_⟩
      · have e:decide (x.getD k.toNat 0 = y.getD k.toNat 0) = false:=by simpa using d2
        rw [e,Bool.false_and] at hQ
        exact hQ.2 rfl
      · have e:decide (x.getD k.toNat 0 = y.getD k.toNat 0) = true:=by simpa using d2
        rw [e,Bool.true_and] at hQ
        exact ⟨⟨⟨by omega,by omega,h2,h3⟩,by show ((x.length:Int) - (k + 1)).toNat < ((x.length:Int) - k).toNat; omega⟩,hQ⟩
    · have d1:=of_decide_eq_false d1
      rw [eqd_end d1 h2] at hQ
      exact hQ.1 rfl
def L_rSame2:Lay:={ slots:=[(2,.ptr 3168 0),(3,.ptr 4168 0),(6,.val tI)],boxes:=[(3168,[.val tI,.val tI,.val tI,.val tI,.val tI,.val (.sl (.pair tI tV)),.val (.sl tIs),.val tI,.val (.sl (.pair tI (.pair tI (.pair tI .bool)))),.val tI]),(4168,[.val tI,.val tI,.val tI,.val tI,.val tI,.val (.sl (.pair tI tV)),.val (.sl tIs),.val tI,.val (.sl (.pair tI (.pair tI (.pair tI .bool)))),.val tI])] }
def L_rSame2_0:Lay:={ slots:=[(4,.val .bool)] }
def L_rSame2_1:Lay:={ slots:=[(2,.ptr 3168 0),(3,.ptr 4168 0)],boxes:=[(3168,[.val tI,.val tI,.val tI,.val tI,.val tI,.val (.sl (.pair tI tV)),.val (.sl tIs),.val tI,.val (.sl (.pair tI (.pair tI (.pair tI .bool)))),.val tI]),(4168,[.val tI,.val tI,.val tI,.val tI,.val tI,.val (.sl (.pair tI tV)),.val (.sl tIs),.val tI,.val (.sl (.pair tI (.pair tI (.pair tI .bool)))),.val tI])] }
def X_rSame2:Exit → St → Option Lay
  | .ret,_ => some L_rSame2_0
  | .exit 2,_ => some L_rSame2_1
  | _,_ => none
abbrev C_rSame2:Code:=loopC (bodyOf Try.f19) 2
theorem B_rSame2 (j a0 a1 a2 a3 a4:Int) (a5:List (Int × V)) (a6:List (List Int)) (a7:Int) (a8:List (Int × (Int × (Int × Bool)))) (a9 b0 b1 b2 b3 b4:Int) (b5:List (Int × V)) (b6:List (List Int)) (b7:Int) (b8:List (Int × (Int × (Int × Bool)))) (b9:Int):loopBodyA (P:=P) [] (lpOf [(4,R_rSame24)]) [] 168 noU (inner C_rSame2) L_rSame2 X_rSame2 (α:=Unit × Unit × Int × Int × Int × Int × Int × Int × List (Int × V) × List (List Int) × Int × List (Int × (Int × (Int × Bool))) × Int × Int × Int × Int × Int × Int × List (Int × V) × List (List Int) × Int × List (Int × (Int × (Int × Bool))) × Int × Unit) (fun x => x) (fun x => x) ((),(),j,a0,a1,a2,a3,a4,a5,a6,a7,a8,a9,b0,b1,b2,b3,b4,b5,b6,b7,b8,b9,()) =
  Tree.cond (decide (j < (a6.length:Int))) (.need ((0:Int) ≤ j ∧ j < (a6.length:Int)) (.need ((0:Int) ≤ j ∧ j < (b6.length:Int)) (.cond ((↑(List.length (List.getD a6 (Int.toNat j) [])):Int) != (↑(List.length (List.getD b6 (Int.toNat j) [])):Int)) (.leaf (Sum.inr (Exit.ret,Lay.st L_rSame2_0 noU (false,())))) (.need (inv_rSame24 ((),(),j,List.getD a6 (Int.toNat j) [],List.getD b6 (Int.toNat j) [],(0:Int),a0,a1,a2,a3,a4,a5,a6,a7,a8,a9,b0,b1,b2,b3,b4,b5,b6,b7,b8,b9,())) (.cond (decide (List.drop (Int.toNat (0:Int)) (List.getD a6 (Int.toNat j) []) = List.drop (Int.toNat (0:Int)) (List.getD b6 (Int.toNat j) []))) (.leaf (Sum.inl ((),(),IntKind.i64.wrap (j + (1:Int)),a0,a1,a2,a3,a4,a5,a6,a7,a8,a9,b0,b1,b2,b3,b4,b5,b6,b7,b8,b9,()))) (.leaf (Sum.inr (Exit.ret,Lay.st L_rSame2_0 noU (false,()))))))))) (.leaf (Sum.inr (Exit.exit (2:Nat),Lay.st L_rSame2_1 noU ((),(),a0,a1,a2,a3,a4,a5,a6,a7,a8,a9,b0,b1,b2,b3,b4,b5,b6,b7,b8,b9,())))):=by kernel_rfl
def inv_rSame2:Unit × Unit × Int × Int × Int × Int × Int × Int × List (Int × V) × List (List Int) × Int × List (Int × (Int × (Int × Bool))) × Int × Int × Int × Int × Int × Int × List (Int × V) × List (List Int) × Int × List (Int × (Int × (Int × Bool))) × Int × Unit → Prop:=fun ((),(),j,a0,a1,a2,a3,a4,a5,a6,a7,a8,a9,b0,b1,b2,b3,b4,b5,b6,b7,b8,b9,()) => 0 ≤ j ∧ j ≤ a6.length ∧ a6.length = b6.length ∧ a6.length ≤ 1000 ∧ ∀ q ∈ a6,q.length ≤ 1000
def O_rSame2:Unit × Unit × Int × Int × Int × Int × Int × Int × List (Int × V) × List (List Int) × Int × List (Int × (Int × (Int × Bool))) × Int × Int × Int × Int × Int × Int × List (Int × V) × List (List Int) × Int × List (Int × (Int × (Int × Bool))) × Int × Unit → Tree (Exit × St):=fun ((),(),j,a0,a1,a2,a3,a4,a5,a6,a7,a8,a9,b0,b1,b2,b3,b4,b5,b6,b7,b8,b9,()) => .cond (decide (a6.drop j.toNat = b6.drop j.toNat)) (.leaf (.exit 2,L_rSame2_1.st noU ((),(),a0,a1,a2,a3,a4,a5,a6,a7,a8,a9,b0,b1,b2,b3,b4,b5,b6,b7,b8,b9,()))) (.leaf (.ret,L_rSame2_0.st noU ((false),())))
def R_rSame2:LRun:=runOf 168 L_rSame2 (fun x => x) (inv_rSame2) (O_rSame2)
theorem K_rSame2:LoopOk P [] 168 none noU C_rSame2 (R_rSame2):=by
  refine loop_of hm (cx:=[]) [(4,R_rSame24)] (xl:=X_rSame2) (α:=Unit × Unit × Int × Int × Int × Int × Int × Int × List (Int × V) × List (List Int) × Int × List (Int × (Int × (Int × Bool))) × Int × Int × Int × Int × Int × Int × List (Int × V) × List (List Int) × Int × List (Int × (Int × (Int × Bool))) × Int × Unit) (fun x => x) (fun ((),(),j,a0,a1,a2,a3,a4,a5,a6,a7,a8,a9,b0,b1,b2,b3,b4,b5,b6,b7,b8,b9,()) => ((a6.length:Int) - j).toNat) (fun _ => rfl) (by kernel_rfl) (by kernel_rfl) ?_ (by kernel_rfl) ⟨K_rSame24,trivial⟩ ?_
  · intro e S L' h
    unfold X_rSame2 at h
    split at h <;> first | (cases h; done) | (cases h; kernel_rfl) | (rcases bif_some h with h | h <;> cases h <;> kernel_rfl)
  · rintro ⟨⟨⟩,⟨⟩,j,a0,a1,a2,a3,a4,a5,a6,a7,a8,a9,b0,b1,b2,b3,b4,b5,b6,b7,b8,b9,⟨⟩⟩ hinv Q hQ
    refine hold_of_eq (B_rSame2 j a0 a1 a2 a3 a4 a5 a6 a7 a8 a9 b0 b1 b2 b3 b4 b5 b6 b7 b8 b9) ?_
    obtain ⟨h0,h1,h2,h3,h4⟩:=hinv
    rw [W_id (n:=j + 1) (by omega) (by omega)]
    unfold O_rSame2 at hQ
    dsimp only at hQ
    refine ⟨fun d1 => ?_,fun d1 => ?_⟩
    · have d1:=of_decide_eq_true d1
      rw [eqd_step [] h0 d1 h2] at hQ
      have h5:=h4 _ (getD_mem (d:=([] : List Int)) (show j.toNat < a6.length by omega))
      refine ⟨⟨h0,d1⟩,⟨h0,by omega⟩,fun d2 => ?_,fun d2 => ?_⟩
      · have d2:(a6.getD j.toNat []).length ≠ (b6.getD j.toNat []).length:=by
          have d2:((a6.getD j.toNat []).length:Int) ≠ (b6.getD j.toNat []).length:=by simpa using d2
          omega
        have e:decide (a6.getD j.toNat [] = b6.getD j.toNat []) = false:=decide_eq_false fun h => d2 (by rw [h])
        rw [e,Bool.false_and] at hQ
        exact hQ.2 rfl
      · have d2:((a6.getD j.toNat []).length:Int) = (b6.getD j.toNat []).length:=by simpa using d2
        refine ⟨⟨by decide,by omega,by omega,h5⟩,fun d3 => ?_,fun d3 => ?_⟩
        · have e:decide (a6.getD j.toNat [] = b6.getD j.toNat []) = true:=d3
          rw [e,Bool.true_and] at hQ
          exact ⟨⟨⟨by omega,by omega,h2,h3,h4⟩,by show ((a6.length:Int) - (j + 1)).toNat < ((a6.length:Int) - j).toNat; omega⟩,hQ⟩
        · have e:decide (a6.getD j.toNat [] = b6.getD j.toNat []) = false:=d3
          rw [e,Bool.false_and] at hQ
          exact hQ.2 rfl
    · have d1:=of_decide_eq_false d1
      rw [eqd_end d1 h2] at hQ
      exact hQ.1 rfl
def L_rSame6:Lay:={ slots:=[(2,.ptr 3168 0),(3,.ptr 4168 0),(10,.val tI)],boxes:=[(3168,[.val tI,.val tI,.val tI,.val tI,.val tI,.val (.sl (.pair tI tV)),.val (.sl tIs),.val tI,.val (.sl (.pair tI (.pair tI (.pair tI .bool)))),.val tI]),(4168,[.val tI,.val tI,.val tI,.val tI,.val tI,.val (.sl (.pair tI tV)),.val (.sl tIs),.val tI,.val (.sl (.pair tI (.pair tI (.pair tI .bool)))),.val tI])] }
def L_rSame6_0:Lay:={ slots:=[(4,.val .bool)] }
def L_rSame6_1:Lay:={ slots:=[] }
def X_rSame6:Exit → St → Option Lay
  | .ret,_ => some L_rSame6_0
  | .exit 6,_ => some L_rSame6_1
  | _,_ => none
abbrev C_rSame6:Code:=loopC (bodyOf Try.f19) 6
theorem B_rSame6 (m a0 a1 a2 a3 a4:Int) (a5:List (Int × V)) (a6:List (List Int)) (a7:Int) (a8:List (Int × (Int × (Int × Bool)))) (a9 b0 b1 b2 b3 b4:Int) (b5:List (Int × V)) (b6:List (List Int)) (b7:Int) (b8:List (Int × (Int × (Int × Bool)))) (b9:Int):loopBodyA (P:=P) [] (lpOf []) [] 168 noU (inner C_rSame6) L_rSame6 X_rSame6 (α:=Unit × Unit × Int × Int × Int × Int × Int × Int × List (Int × V) × List (List Int) × Int × List (Int × (Int × (Int × Bool))) × Int × Int × Int × Int × Int × Int × List (Int × V) × List (List Int) × Int × List (Int × (Int × (Int × Bool))) × Int × Unit) (fun x => x) (fun x => x) ((),(),m,a0,a1,a2,a3,a4,a5,a6,a7,a8,a9,b0,b1,b2,b3,b4,b5,b6,b7,b8,b9,()) =
  Tree.cond (decide (m < (a8.length:Int))) (.need ((0:Int) ≤ m ∧ m < (a8.length:Int)) (.need ((0:Int) ≤ m ∧ m < (b8.length:Int)) (.cond (!((List.getD a8 (Int.toNat m) ((0:Int),(0:Int),(0:Int),false)).fst == (List.getD b8 (Int.toNat m) ((0:Int),(0:Int),(0:Int),false)).fst && ((List.getD a8 (Int.toNat m) ((0:Int),(0:Int),(0:Int),false)).snd.fst == (List.getD b8 (Int.toNat m) ((0:Int),(0:Int),(0:Int),false)).snd.fst && ((List.getD a8 (Int.toNat m) ((0:Int),(0:Int),(0:Int),false)).snd.snd.fst == (List.getD b8 (Int.toNat m) ((0:Int),(0:Int),(0:Int),false)).snd.snd.fst && ((List.getD a8 (Int.toNat m) ((0:Int),(0:Int),(0:Int),false)).snd.snd.snd == (List.getD b8 (Int.toNat m) ((0:Int),(0:Int),(0:Int),false)).snd.snd.snd && true))))) (.leaf (Sum.inr (Exit.ret,Lay.st L_rSame6_0 noU (false,())))) (.leaf (Sum.inl ((),(),IntKind.i64.wrap (m + (1:Int)),a0,a1,a2,a3,a4,a5,a6,a7,a8,a9,b0,b1,b2,b3,b4,b5,b6,b7,b8,b9,())))))) (.leaf (Sum.inr (Exit.exit (6:Nat),Lay.st L_rSame6_1 noU ()))):=by kernel_rfl
def inv_rSame6:Unit × Unit × Int × Int × Int × Int × Int × Int × List (Int × V) × List (List Int) × Int × List (Int × (Int × (Int × Bool))) × Int × Int × Int × Int × Int × Int × List (Int × V) × List (List Int) × Int × List (Int × (Int × (Int × Bool))) × Int × Unit → Prop:=fun ((),(),m,a0,a1,a2,a3,a4,a5,a6,a7,a8,a9,b0,b1,b2,b3,b4,b5,b6,b7,b8,b9,()) => 0 ≤ m ∧ m ≤ a8.length ∧ a8.length = b8.length ∧ a8.length ≤ 1000
def O_rSame6:Unit × Unit × Int × Int × Int × Int × Int × Int × List (Int × V) × List (List Int) × Int × List (Int × (Int × (Int × Bool))) × Int × Int × Int × Int × Int × Int × List (Int × V) × List (List Int) × Int × List (Int × (Int × (Int × Bool))) × Int × Unit → Tree (Exit × St):=fun ((),(),m,a0,a1,a2,a3,a4,a5,a6,a7,a8,a9,b0,b1,b2,b3,b4,b5,b6,b7,b8,b9,()) => .cond (decide (a8.drop m.toNat = b8.drop m.toNat)) (.leaf (.exit 6,L_rSame6_1.st noU ())) (.leaf (.ret,L_rSame6_0.st noU ((false),())))
def R_rSame6:LRun:=runOf 168 L_rSame6 (fun x => x) (inv_rSame6) (O_rSame6)
theorem K_rSame6:LoopOk P [] 168 none noU C_rSame6 (R_rSame6):=by
  refine loop_of hm (cx:=[]) [] (xl:=X_rSame6) (α:=Unit × Unit × Int × Int × Int × Int × Int × Int × List (Int × V) × List (List Int) × Int × List (Int × (Int × (Int × Bool))) × Int × Int × Int × Int × Int × Int × List (Int × V) × List (List Int) × Int × List (Int × (Int × (Int × Bool))) × Int × Unit) (fun x => x) (fun ((),(),m,a0,a1,a2,a3,a4,a5,a6,a7,a8,a9,b0,b1,b2,b3,b4,b5,b6,b7,b8,b9,()) => ((a8.length:Int) - m).toNat) (fun _ => rfl) (by kernel_rfl) (by kernel_rfl) ?_ (by kernel_rfl) trivial ?_
  · intro e S L' h
    unfold X_rSame6 at h
    split at h <;> first | (cases h; done) | (cases h; kernel_rfl) | (rcases bif_some h with h | h <;> cases h <;> kernel_rfl)
  · rintro ⟨⟨⟩,⟨⟩,m,a0,a1,a2,a3,a4,a5,a6,a7,a8,a9,b0,b1,b2,b3,b4,b5,b6,b7,b8,b9,⟨⟩⟩ hinv Q hQ
    refine hold_of_eq (B_rSame6 m a0 a1 a2 a3 a4 a5 a6 a7 a8 a9 b0 b1 b2 b3 b4 b5 b6 b7 b8 b9) ?_
    obtain ⟨h0,h1,h2,h3⟩:=hinv
    rw [W_id (n:=m + 1) (by omega) (by omega)]
    unfold O_rSame6 at hQ
    dsimp only at hQ
    refine ⟨fun d1 => ?_,fun d1 => ?_⟩
    · have d1:=of_decide_eq_true d1
      rw [eqd_step (0,0,0,false) h0 d1 h2] at hQ
      rw [pm_eq]
      refine ⟨⟨h0,d1⟩,⟨h0,by omega⟩,fun d2 => ?_,fun d2 => ?_⟩
      · have e:decide (a8.getD m.toNat (0,0,0,false) = b8.getD m.toNat (0,0,0,false)) = false:=by simpa using d2
        rw [e,Bool.false_and] at hQ
        exact hQ.2 rfl
      · have e:decide (a8.getD m.toNat (0,0,0,false) = b8.getD m.toNat (0,0,0,false)) = true:=by simpa using d2
        rw [e,Bool.true_and] at hQ
        exact ⟨⟨⟨by omega,by omega,h2,h3⟩,by show ((a8.length:Int) - (m + 1)).toNat < ((a8.length:Int) - m).toNat; omega⟩,hQ⟩
    · have d1:=of_decide_eq_false d1
      rw [eqd_end d1 h2] at hQ
      exact hQ.1 rfl
theorem T_rSame (a_0 a_1 a_2 a_3 a_4:Int) (a_5:List (Int × V)) (a_6:List (List Int)) (a_7:Int) (a_8:List (Int × (Int × (Int × Bool)))) (a_9 b_0 b_1 b_2 b_3 b_4:Int) (b_5:List (Int × V)) (b_6:List (List Int)) (b_7:Int) (b_8:List (Int × (Int × (Int × Bool)))) (b_9:Int):fnTree (P:=P) [] (lpOf [(0,R_rSame0),(2,R_rSame2),(6,R_rSame6)]) Try.f19 (encL 0 [.agg (.pair tI (.pair tI (.pair tI (.pair tI (.pair tI (.pair (.pair (.sl (.pair tI tV)) (.pair (.sl tIs) tI)) (.pair (.sl (.pair tI (.pair tI (.pair tI .bool)))) tI))))))),.agg (.pair tI (.pair tI (.pair tI (.pair tI (.pair tI (.pair (.pair (.sl (.pair tI tV)) (.pair (.sl tIs) tI)) (.pair (.sl (.pair tI (.pair tI (.pair tI .bool)))) tI)))))))] ((a_0,(a_1,(a_2,(a_3,(a_4,((a_5,(a_6,a_7)),(a_8,a_9))))))),(b_0,(b_1,(b_2,(b_3,(b_4,((b_5,(b_6,b_7)),(b_8,b_9))))))),())) =
  Tree.cond (a_0 != b_0) (.leaf (SV.bool false)) (.cond (a_1 != b_1) (.leaf (SV.bool false)) (.cond (a_2 != b_2) (.leaf (SV.bool false)) (.cond (a_3 != b_3) (.leaf (SV.bool false)) (.cond (a_4 != b_4) (.leaf (SV.bool false)) (.cond (a_9 != b_9) (.leaf (SV.bool false)) (.cond (a_7 != b_7) (.leaf (SV.bool false)) (.cond ((a_5.length:Int) != (b_5.length:Int)) (.leaf (SV.bool false)) (.cond ((a_6.length:Int) != (b_6.length:Int)) (.leaf (SV.bool false)) (.cond ((a_8.length:Int) != (b_8.length:Int)) (.leaf (SV.bool false)) (.need (inv_rSame0 ((),(),(0:Int),a_0,a_1,a_2,a_3,a_4,a_5,a_6,a_7,a_8,a_9,b_0,b_1,b_2,b_3,b_4,b_5,b_6,b_7,b_8,b_9,())) (.cond (decide (List.drop (Int.toNat (0:Int)) a_5 = List.drop (Int.toNat (0:Int)) b_5)) (.need (inv_rSame2 ((),(),(0:Int),a_0,a_1,a_2,a_3,a_4,a_5,a_6,a_7,a_8,a_9,b_0,b_1,b_2,b_3,b_4,b_5,b_6,b_7,b_8,b_9,())) (.cond (decide (List.drop (Int.toNat (0:Int)) a_6 = List.drop (Int.toNat (0:Int)) b_6)) (.need (inv_rSame6 ((),(),(0:Int),a_0,a_1,a_2,a_3,a_4,a_5,a_6,a_7,a_8,a_9,b_0,b_1,b_2,b_3,b_4,b_5,b_6,b_7,b_8,b_9,())) (.cond (decide (List.drop (Int.toNat (0:Int)) a_8 = List.drop (Int.toNat (0:Int)) b_8)) (.leaf (SV.bool true)) (.leaf (SV.bool false)))) (.leaf (SV.bool false)))) (.leaf (SV.bool false))))))))))))):=by kernel_rfl
def c_rSame:PC P:=PC.of (α:=(Int × (Int × (Int × (Int × (Int × ((List (Int × V) × (List (List Int) × Int)) × (List (Int × (Int × (Int × Bool))) × Int))))))) × (Int × (Int × (Int × (Int × (Int × ((List (Int × V) × (List (List Int) × Int)) × (List (Int × (Int × (Int × Bool))) × Int))))))) × Unit) 19 [.agg (.pair tI (.pair tI (.pair tI (.pair tI (.pair tI (.pair (.pair (.sl (.pair tI tV)) (.pair (.sl tIs) tI)) (.pair (.sl (.pair tI (.pair tI (.pair tI .bool)))) tI))))))),.agg (.pair tI (.pair tI (.pair tI (.pair tI (.pair tI (.pair (.pair (.sl (.pair tI tV)) (.pair (.sl tIs) tI)) (.pair (.sl (.pair tI (.pair tI (.pair tI .bool)))) tI)))))))] (fun x => x) (fun x => x) (fun _ => rfl)
  (fun x => some (sOk x.1 ∧ sOk x.2.1))
  (fun x => .bool (sameB x.1 x.2.1)) (by kernel_rfl) (by
    rintro ⟨⟨a_0,⟨a_1,⟨a_2,⟨a_3,⟨a_4,⟨⟨a_5,⟨a_6,a_7⟩⟩,⟨a_8,a_9⟩⟩⟩⟩⟩⟩⟩,⟨b_0,⟨b_1,⟨b_2,⟨b_3,⟨b_4,⟨⟨b_5,⟨b_6,b_7⟩⟩,⟨b_8,b_9⟩⟩⟩⟩⟩⟩⟩,⟨⟩⟩ hp
    refine fn_of hm (by kernel_rfl) (by kernel_rfl) (T_rSame a_0 a_1 a_2 a_3 a_4 a_5 a_6 a_7 a_8 a_9 b_0 b_1 b_2 b_3 b_4 b_5 b_6 b_7 b_8 b_9) ⟨K_rSame0,K_rSame2,K_rSame6,trivial⟩ ?_
    try dsimp only at hp
    try dsimp only
    obtain ⟨⟨⟨p1,p2,p3⟩,p4⟩,⟨q1,q2,q3⟩,q4⟩ : sOk (a_0,a_1,a_2,a_3,a_4,(a_5,a_6,a_7),a_8,a_9) ∧ sOk (b_0,b_1,b_2,b_3,b_4,(b_5,b_6,b_7),b_8,b_9):=hp
    dsimp only at p1 p2 p3 p4
    have fin:∀ n:Bool,sameB (a_0,a_1,a_2,a_3,a_4,(a_5,a_6,a_7),a_8,a_9) (b_0,b_1,b_2,b_3,b_4,(b_5,b_6,b_7),b_8,b_9) = n → SV.bool n = SV.bool (sameB (a_0,a_1,a_2,a_3,a_4,(a_5,a_6,a_7),a_8,a_9) (b_0,b_1,b_2,b_3,b_4,(b_5,b_6,b_7),b_8,b_9)):=fun n h => by rw [h]
    have iff:sameB (a_0,a_1,a_2,a_3,a_4,(a_5,a_6,a_7),a_8,a_9) (b_0,b_1,b_2,b_3,b_4,(b_5,b_6,b_7),b_8,b_9) = true ↔ (a_0 = b_0 ∧ a_1 = b_1 ∧ a_2 = b_2 ∧ a_3 = b_3 ∧ a_4 = b_4 ∧ (a_5 = b_5 ∧ a_6 = b_6 ∧ a_7 = b_7) ∧ a_8 = b_8 ∧ a_9 = b_9):=by
      unfold sameB sameH; simp
    refine ⟨fun c => fin _ (Bool.eq_false_iff.2 fun h => by obtain ⟨rfl,rfl,rfl,rfl,rfl,⟨rfl,rfl,rfl⟩,rfl,rfl⟩:=iff.1 h; simp at c),fun c0 => ⟨fun c => fin _ (Bool.eq_false_iff.2 fun h => by obtain ⟨rfl,rfl,rfl,rfl,rfl,⟨rfl,rfl,rfl⟩,rfl,rfl⟩:=iff.1 h; simp at c),fun c1 => ⟨fun c => fin _ (Bool.eq_false_iff.2 fun h => by obtain ⟨rfl,rfl,rfl,rfl,rfl,⟨rfl,rfl,rfl⟩,rfl,rfl⟩:=iff.1 h; simp at c),fun c2 => ⟨fun c => fin _ (Bool.eq_false_iff.2 fun h => by obtain ⟨rfl,rfl,rfl,rfl,rfl,⟨rfl,rfl,rfl⟩,rfl,rfl⟩:=iff.1 h; simp at c),fun c3 => ⟨fun c => fin _ (Bool.eq_false_iff.2 fun h => by obtain ⟨rfl,rfl,rfl,rfl,rfl,⟨rfl,rfl,rfl⟩,rfl,rfl⟩:=iff.1 h; simp at c),fun c4 => ⟨fun c => fin _ (Bool.eq_false_iff.2 fun h => by obtain ⟨rfl,rfl,rfl,rfl,rfl,⟨rfl,rfl,rfl⟩,rfl,rfl⟩:=iff.1 h; simp at c),fun c5 => ⟨fun c => fin _ (Bool.eq_false_iff.2 fun h => by obtain ⟨rfl,rfl,rfl,rfl,rfl,⟨rfl,rfl,rfl⟩,rfl,rfl⟩:=iff.1 h; simp at c),fun c6 => ⟨fun c => fin _ (Bool.eq_false_iff.2 fun h => by obtain ⟨rfl,rfl,rfl,rfl,rfl,⟨rfl,rfl,rfl⟩,rfl,rfl⟩:=iff.1 h; simp at c),fun c7 => ⟨fun c => fin _ (Bool.eq_false_iff.2 fun h => by obtain ⟨rfl,rfl,rfl,rfl,rfl,⟨rfl,rfl,rfl⟩,rfl,rfl⟩:=iff.1 h; simp at c),fun c8 => ⟨fun c => fin _ (Bool.eq_false_iff.2 fun h => by obtain ⟨rfl,rfl,rfl,rfl,rfl,⟨rfl,rfl,rfl⟩,rfl,rfl⟩:=iff.1 h; simp at c),fun c9 => ?_⟩⟩⟩⟩⟩⟩⟩⟩⟩⟩
    simp only [bne_eq_false_iff_eq] at c0 c1 c2 c3 c4 c5 c6 c7 c8 c9
    refine ⟨⟨by decide,by omega,by omega,p1⟩,fun d0 => ⟨⟨by decide,by omega,by omega,p2,p3⟩,fun d2 => ⟨⟨by decide,by omega,by omega,p4⟩,fun d6 => fin _ ?_,fun d6 => fin _ ?_⟩,fun d2 => fin _ ?_⟩,fun d0 => fin _ ?_⟩
    · have d0:a_5 = b_5:=of_decide_eq_true d0
      have d2:a_6 = b_6:=of_decide_eq_true d2
      have d6:a_8 = b_8:=of_decide_eq_true d6
      exact iff.2 ⟨c0,c1,c2,c3,c4,⟨d0,d2,c6⟩,d6,c5⟩
    · have d6:¬ a_8 = b_8:=of_decide_eq_false d6
      exact Bool.eq_false_iff.2 fun h => d6 (iff.1 h).2.2.2.2.2.2.1
    · have d2:¬ a_6 = b_6:=of_decide_eq_false d2
      exact Bool.eq_false_iff.2 fun h => d2 (iff.1 h).2.2.2.2.2.1.2.1
    · have d0:¬ a_5 = b_5:=of_decide_eq_false d0
      exact Bool.eq_false_iff.2 fun h => d0 (iff.1 h).2.2.2.2.2.1.1)
def L_Big0:Lay:={ slots:=[(1,.ptr 2028 0),(3,.val tI)],boxes:=[(2028,[.val (.sl (.pair tI tV)),.val (.sl tIs),.val tI])] }
def L_Big0_0:Lay:={ slots:=[(2,.val .bool)] }
def L_Big0_1:Lay:={ slots:=[] }
def X_Big0:Exit → St → Option Lay
  | .ret,_ => some L_Big0_0
  | .exit 0,_ => some L_Big0_1
  | _,_ => none
abbrev C_Big0:Code:=loopC (bodyOf Try.f24) 0
theorem B_Big0 (i:Int) (els:List (Int × V)) (envs:List (List Int)) (need:Int):loopBodyA (P:=P) [] (lpOf []) [] 28 noU (inner C_Big0) L_Big0 X_Big0 (α:=Unit × Int × List (Int × V) × List (List Int) × Int × Unit) (fun x => x) (fun x => x) ((),i,els,envs,need,()) =
  Tree.cond (decide (i < (envs.length:Int))) (.need ((0:Int) ≤ i ∧ i < (envs.length:Int)) (.cond (decide ((↑(List.length (List.getD envs (Int.toNat i) [])):Int) > (12:Int))) (.leaf (Sum.inr (Exit.ret,Lay.st L_Big0_0 noU (true,())))) (.leaf (Sum.inl ((),IntKind.i64.wrap (i + (1:Int)),els,envs,need,()))))) (.leaf (Sum.inr (Exit.exit (0:Nat),Lay.st L_Big0_1 noU ()))):=by kernel_rfl
def inv_Big0:Unit × Int × List (Int × V) × List (List Int) × Int × Unit → Prop:=fun ((),i,els,envs,need,()) => 0 ≤ i ∧ i ≤ envs.length ∧ envs.length ≤ 1000
def O_Big0:Unit × Int × List (Int × V) × List (List Int) × Int × Unit → Tree (Exit × St):=fun ((),i,els,envs,need,()) => .cond ((envs.drop i.toNat).any fun q => decide ((q.length:Int) > 12)) (.leaf (.ret,L_Big0_0.st noU ((true),()))) (.leaf (.exit 0,L_Big0_1.st noU ()))
def R_Big0:LRun:=runOf 28 L_Big0 (fun x => x) (inv_Big0) (O_Big0)
theorem K_Big0:LoopOk P [] 28 none noU C_Big0 (R_Big0):=by
  refine loop_of hm (cx:=[]) [] (xl:=X_Big0) (α:=Unit × Int × List (Int × V) × List (List Int) × Int × Unit) (fun x => x) (fun ((),i,els,envs,need,()) => ((envs.length:Int) - i).toNat) (fun _ => rfl) (by kernel_rfl) (by kernel_rfl) ?_ (by kernel_rfl) trivial ?_
  · intro e S L' h
    unfold X_Big0 at h
    split at h <;> first | (cases h; done) | (cases h; kernel_rfl) | (rcases bif_some h with h | h <;> cases h <;> kernel_rfl)
  · rintro ⟨⟨⟩,i,els,envs,need,⟨⟩⟩ hinv Q hQ
    refine hold_of_eq (B_Big0 i els envs need) ?_
    obtain ⟨h0,h1,h2⟩:=hinv
    rw [W_id (n:=i + 1) (by omega) (by omega)]
    unfold O_Big0 at hQ
    dsimp only at hQ
    refine ⟨fun d1 => ?_,fun d1 => ?_⟩
    · have d1:=of_decide_eq_true d1
      rw [drop_step [] h0 d1,List.any_cons] at hQ
      refine ⟨⟨h0,d1⟩,fun d2 => ?_,fun d2 => ?_⟩
      · rw [d2,Bool.true_or] at hQ
        exact hQ.1 rfl
      · rw [d2,Bool.false_or] at hQ
        exact ⟨⟨⟨by omega,by omega,h2⟩,by show ((envs.length:Int) - (i + 1)).toNat < ((envs.length:Int) - i).toNat; omega⟩,hQ⟩
    · have d1:=of_decide_eq_false d1
      rw [drop_end d1] at hQ
      exact hQ.2 rfl
theorem T_BigHouse (h_0:List (Int × V)) (h_1:List (List Int)) (h_2:Int):fnTree (P:=P) [] (lpOf [(0,R_Big0)]) Try.f24 (encL 0 [.agg (.pair (.sl (.pair tI tV)) (.pair (.sl tIs) tI))] ((h_0,(h_1,h_2)),())) =
  Tree.cond (decide ((h_0.length:Int) > (12:Int))) (.leaf (SV.bool true)) (.cond (decide ((h_1.length:Int) > (10:Int))) (.leaf (SV.bool true)) (.need (inv_Big0 ((),(0:Int),h_0,h_1,h_2,())) (.cond (List.any (List.drop (Int.toNat (0:Int)) h_1) fun q => decide ((q.length:Int) > (12:Int))) (.leaf (SV.bool true)) (.leaf (SV.bool false))))):=by kernel_rfl
def c_BigHouse:PC P:=PC.of (α:=(List (Int × V) × (List (List Int) × Int)) × Unit) 24 [.agg (.pair (.sl (.pair tI tV)) (.pair (.sl tIs) tI))] (fun x => x) (fun x => x) (fun _ => rfl)
  (fun _ => none)
  (fun x => .bool (bigH x.1)) (by kernel_rfl) (by
    rintro ⟨⟨h_0,⟨h_1,h_2⟩⟩,⟨⟩⟩ hp
    refine fn_of hm (by kernel_rfl) (by kernel_rfl) (T_BigHouse h_0 h_1 h_2) ⟨K_Big0,trivial⟩ ?_
    try dsimp only at hp
    try dsimp only
    have fin:∀ n:Bool,bigH (h_0,h_1,h_2) = n → SV.bool n = SV.bool (bigH (h_0,h_1,h_2)):=fun n h => by rw [h]
    unfold bigH at fin ⊢
    dsimp only at fin ⊢
    refine ⟨fun c1 => fin _ ?_,fun c1 => ⟨fun c2 => fin _ ?_,fun c2 => ⟨⟨by decide,by omega,by have:=of_decide_eq_false c2; omega⟩,fun c3 => fin _ ?_,fun c3 => fin _ ?_⟩⟩⟩
    · rw [c1,Bool.true_or]
    · rw [c1,c2,Bool.true_or,Bool.false_or]
    · have c3:(h_1.any fun q => decide ((q.length:Int) > 12)) = true:=c3
      rw [c1,c2,c3]; rfl
    · have c3:(h_1.any fun q => decide ((q.length:Int) > 12)) = false:=c3
      rw [c1,c2,c3]; rfl)
end
end Go.MB
