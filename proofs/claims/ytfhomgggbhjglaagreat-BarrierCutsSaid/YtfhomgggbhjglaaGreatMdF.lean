/- Cuts: the reference's. -/
import Derived.Test.YtfhomgggbhjglaaGreatMdC
import Derived.Test.YtfhomgggbhjglaaGreatMcE
namespace Go.MB
open Go Go.Sx Go.Proofs
set_option linter.unusedVariables false
set_option linter.unusedSimpArgs false
noncomputable section
theorem mod_bit (S:Nat) {i:Int} (hi:0 ≤ i) (h:i < 11) (hS:S < 1024):(shrI .i64 (S:Int) i).tmod 2 = if S.testBit i.toNat = true then 1 else 0:=by
  have e:shrI .i64 (S:Int) i = ((S / 2 ^ i.toNat:Nat):Int):=by
    show (S:Int).fdiv (2 ^ min i.toNat 64) = _
    rw [show min i.toNat 64 = i.toNat by omega]
    have e:((2:Int) ^ i.toNat) = ((2 ^ i.toNat:Nat):Int):=by simp
    rw [e,Int.fdiv_eq_ediv_of_nonneg _ (Int.natCast_nonneg _)]
    rfl
  rw [e,Nat.testBit_eq_decide_div_mod_eq,Int.tmod_eq_emod_of_nonneg (Int.natCast_nonneg _)]
  generalize S / 2 ^ i.toNat = r
  by_cases c:r % 2 = 1
  · rw [if_pos (by simpa using c)]; omega
  · rw [if_neg (by simpa using c)]; omega
theorem shlL {i:Int} (h0:0 ≤ i) (h1:i ≤ 10):shlI .i64 1 i = ((2 ^ i.toNat:Nat):Int):=by
  show IntKind.wrap .i64 (1 * 2 ^ min i.toNat 64) = _
  rw [Int.one_mul,show min i.toNat 64 = i.toNat by omega]
  have h:(2:Nat) ^ i.toNat ≤ 2 ^ 10:=Nat.pow_le_pow_right (by decide) (by omega)
  have e:((2:Int) ^ i.toNat) = ((2 ^ i.toNat:Nat):Int):=by simp
  rw [e]
  generalize (2:Nat) ^ i.toNat = z at *
  rw [W_id (by omega) (by omega)]
theorem pow_le {n:Nat} (h:n ≤ 10):2 ^ n ≤ 1024:=Nat.le_trans (Nat.pow_le_pow_right (by decide) h) (by decide)
theorem woF_step {f:List Bool} {S:Nat} {i:Int} (h0:0 ≤ i) (h:i < f.length):woF (f.drop i.toNat) i.toNat S = (f.getD i.toNat false && !S.testBit i.toNat) :: woF (f.drop (i + 1).toNat) (i + 1).toNat S:=by
  rw [drop_step false h0 h,woF,show (i + 1).toNat = i.toNat + 1 by omega]
def L_wo0:Lay:={ slots:=[(0,.val (.sl .bool)),(1,.val tI),(5,.row 4 .bool),(6,.val tI)] }
def L_wo0_0:Lay:={ slots:=[(5,.row 4 .bool)] }
def X_wo0:Exit → St → Option Lay
  | .exit 0,_ => some L_wo0_0
  | _,_ => none
abbrev C_wo0:Code:=loopC (bodyOf Tryz.f131) 0
theorem B_wo0 (f:List Bool) (s:Int) (out:List Bool) (i:Int):loopBodyA (P:=P) [] (lpOf []) [] 28 noU (inner C_wo0) L_wo0 X_wo0 (α:=List Bool × Int × List Bool × Int × Unit) (fun x => x) (fun x => x) (f,s,out,i,()) =
  Tree.cond (decide (i < (f.length:Int))) (.need ((0:Int) ≤ i ∧ i < (f.length:Int)) (.cond (List.getD f (Int.toNat i) false) (.need ((0:Int) ≤ i) (.need ((2:Int) ≠ (0:Int)) (.need ((List.length out + List.length [Int.tmod (shrI IntKind.i64 s i) (2:Int) == (0:Int)]) * (1:Nat) ≤ (140737488355328:Nat)) (.leaf (Sum.inl (f,s,out ++ [Int.tmod (shrI IntKind.i64 s i) (2:Int) == (0:Int)],IntKind.i64.wrap (i + (1:Int)),())))))) (.need ((List.length out + List.length [false]) * (1:Nat) ≤ (140737488355328:Nat)) (.leaf (Sum.inl (f,s,out ++ [false],IntKind.i64.wrap (i + (1:Int)),())))))) (.leaf (Sum.inr (Exit.exit (0:Nat),Lay.st L_wo0_0 noU (out,())))):=by kernel_rfl
def inv_wo0:List Bool × Int × List Bool × Int × Unit → Prop:=fun (f,s,out,i,()) => (0 ≤ s ∧ s < 1024) ∧ 0 ≤ i ∧ i ≤ f.length ∧ f.length ≤ 10 ∧ (out.length:Int) ≤ i
def O_wo0:List Bool × Int × List Bool × Int × Unit → Tree (Exit × St):=fun (f,s,out,i,()) => (.leaf (.exit 0,L_wo0_0.st noU ((out ++ woF (f.drop i.toNat) i.toNat s.toNat),())))
def R_wo0:LRun:=runOf 28 L_wo0 (fun x => x) (inv_wo0) (O_wo0)
theorem K_wo0:LoopOk P [] 28 none noU C_wo0 (R_wo0):=by
  refine loop_of hm (cx:=[]) [] (xl:=X_wo0) (α:=List Bool × Int × List Bool × Int × Unit) (fun x => x) (fun (f,s,out,i,()) => (f.length - i).toNat) (fun _ => rfl) (by kernel_rfl) (by kernel_rfl) ?_ (by kernel_rfl) trivial ?_
  · intro e S L' h
    unfold X_wo0 at h
    split at h <;> first | (cases h; done) | (cases h; kernel_rfl) | (rcases bif_some h with h | h <;> cases h <;> kernel_rfl)
  · rintro ⟨f,s,out,i,⟨⟩⟩ hinv Q hQ
    refine hold_of_eq (B_wo0 f s out i) ?_
    obtain ⟨⟨h0,h1⟩,h2,h3,h4,h5⟩:=hinv
    unfold O_wo0 at hQ
    dsimp only at hQ
    obtain ⟨S,rfl⟩:=Int.eq_ofNat_of_zero_le h0
    rw [Int.toNat_natCast] at hQ
    rw [W_id (n:=i + 1) (by omega) (by omega)]
    have mm:i < f.length → ((f.length:Int) - (i + 1)).toNat < ((f.length:Int) - i).toNat:=fun h => by omega
    refine ⟨fun c1 => ?_,fun c1 => ?_⟩
    · have c1:=of_decide_eq_true c1
      rw [woF_step h2 c1,List.append_cons] at hQ
      have inv:∀ z:Bool,inv_wo0 (f,(S:Int),out ++ [z],i + 1,()):=fun z => ⟨⟨by omega,h1⟩,by omega,by omega,h4,by simp only [List.length_append,List.length_cons,List.length_nil]; omega⟩
      refine ⟨⟨h2,c1⟩,⟨fun c2 => ⟨h2,by decide,by simp only [List.length_cons,List.length_nil]; omega,?_⟩,fun c2 => ⟨by simp only [List.length_cons,List.length_nil]; omega,?_⟩⟩⟩
      · have e:((shrI .i64 (S:Int) i).tmod 2 == 0) = (f.getD i.toNat false && !S.testBit i.toNat):=by
          rw [mod_bit S h2 (by omega) (by omega),show f.getD i.toNat false = true from c2,Bool.true_and]
          cases S.testBit i.toNat <;> rfl
        rw [e]
        refine ⟨⟨inv _,mm c1⟩,?_⟩
        unfold O_wo0
        dsimp only
        rw [Int.toNat_natCast]
        exact hQ
      · rw [show f.getD i.toNat false = false from c2,Bool.false_and] at hQ
        refine ⟨⟨inv _,mm c1⟩,?_⟩
        unfold O_wo0
        dsimp only
        rw [Int.toNat_natCast]
        exact hQ
    · have key:∀ z:List Bool,z = out → Tree.holds Q (.leaf (.exit 0,L_wo0_0.st noU (z,()))) → Tree.holds Q (.leaf (.exit 0,L_wo0_0.st noU (out,()))):=fun z hz h => hz ▸ h
      exact key _ (by rw [drop_end (of_decide_eq_false c1),woF,List.append_nil]) hQ
theorem T_without (f:List Bool) (s:Int):fnTree (P:=P) [] (lpOf [(0,R_wo0)]) Tryz.f131 (encL 0 [.val (.sl .bool),.val tI] (f,s,())) =
  Tree.need (inv_wo0 (f,s,[],(0:Int),())) (.leaf (SV.sl Ty.bool (woF (List.drop (Int.toNat (0:Int)) f) (Int.toNat (0:Int)) (Int.toNat s)))):=by kernel_rfl
def c_without:PC P:=PC.of (α:=List Bool × Int × Unit) 131 [.val (.sl .bool),.val tI] (fun x => x) (fun x => x) (fun _ => rfl)
  (fun x => some ((0 ≤ x.2.1 ∧ x.2.1 < 1024) ∧ x.1.length ≤ 10))
  (fun x => .sl .bool (woF x.1 0 x.2.1.toNat)) (by kernel_rfl) (by
    rintro ⟨f,s,⟨⟩⟩ hp
    refine fn_le hm (by kernel_rfl) (by kernel_rfl) (T_without f s) ⟨K_wo0,trivial⟩ (by kernel_rfl) ?_
    try dsimp only at hp
    try dsimp only
    obtain ⟨h1,h2⟩ : (0 ≤ s ∧ s < 1024) ∧ f.length ≤ 10:=hp
    exact ⟨⟨h1,by decide,by omega,h2,by decide⟩,rfl⟩)
def L_rct0:Lay:={ slots:=[(1,.val (.sl .bool)),(2,.val tI),(3,.ptr 4040 0),(7,.val tI)],boxes:=[(4040,[.val (.sl (.pair tI tV)),.val (.sl tIs),.val tI])] }
def L_rct0_0:Lay:={ slots:=[(6,.val .bool)] }
def L_rct0_1:Lay:={ slots:=[] }
def X_rct0:Exit → St → Option Lay
  | .ret,_ => some L_rct0_0
  | .exit 0,_ => some L_rct0_1
  | _,_ => none
abbrev C_rct0:Code:=loopC (bodyOf Tryz.f94) 0
theorem B_rct0 (f:List Bool) (s i:Int) (els:List (Int × V)) (envs:List (List Int)) (need:Int):loopBodyA (P:=P) [c_without.gc,c_rholds.gc] (lpOf []) [] 40 noU (inner C_rct0) L_rct0 X_rct0 (α:=List Bool × Int × Unit × Int × List (Int × V) × List (List Int) × Int × Unit) (fun x => x) (fun x => x) (f,s,(),i,els,envs,need,()) =
  Tree.cond (decide (i < (f.length:Int))) (.need ((0:Int) ≤ i) (.need ((2:Int) ≠ (0:Int)) (.cond (Int.tmod (shrI IntKind.i64 s i) (2:Int) == (0:Int)) (.leaf (Sum.inl (f,s,(),IntKind.i64.wrap (i + (1:Int)),els,envs,need,()))) (.need ((0:Int) ≤ i ∧ i < (f.length:Int)) (.cond (!List.getD f (Int.toNat i) false) (.leaf (Sum.inr (Exit.ret,Lay.st L_rct0_0 noU (false,())))) (.need ((0:Int) ≤ i) (.need (((0:Int) ≤ IntKind.i64.wrap (s - shlI IntKind.i64 (1:Int) i) ∧ IntKind.i64.wrap (s - shlI IntKind.i64 (1:Int) i) < (1024:Int)) ∧ List.length f ≤ (10:Nat)) (.need (houseE (els,envs,need) = (0:Int) ∧ flOk (woF f (0:Nat) (Int.toNat (IntKind.i64.wrap (s - shlI IntKind.i64 (1:Int) i)))) envs) (.cond (!Option.isSome (proofF (els,envs,need) (woF f (0:Nat) (Int.toNat (IntKind.i64.wrap (s - shlI IntKind.i64 (1:Int) i)))))) (.leaf (Sum.inr (Exit.ret,Lay.st L_rct0_0 noU (false,())))) (.leaf (Sum.inl (f,s,(),IntKind.i64.wrap (i + (1:Int)),els,envs,need,())))))))))))) (.leaf (Sum.inr (Exit.exit (0:Nat),Lay.st L_rct0_1 noU ()))):=by kernel_rfl
def inv_rct0:List Bool × Int × Unit × Int × List (Int × V) × List (List Int) × Int × Unit → Prop:=fun (f,s,(),i,els,envs,need,()) => houseE (els,envs,need) = 0 ∧ f.length = els.length ∧ (0 ≤ s ∧ s < 1024) ∧ 0 ≤ i ∧ i ≤ f.length
def O_rct0:List Bool × Int × Unit × Int × List (Int × V) × List (List Int) × Int × Unit → Tree (Exit × St):=fun (f,s,(),i,els,envs,need,()) => .cond (rcA (els,envs,need) f s.toNat (f.length - i).toNat i.toNat) (.leaf (.exit 0,L_rct0_1.st noU ())) (.leaf (.ret,L_rct0_0.st noU ((false),())))
def R_rct0:LRun:=runOf 40 L_rct0 (fun x => x) (inv_rct0) (O_rct0)
theorem K_rct0:LoopOk P [] 40 none noU C_rct0 (R_rct0):=by
  refine loop_of hm (cx:=[c_without.gc,c_rholds.gc]) [] (xl:=X_rct0) (α:=List Bool × Int × Unit × Int × List (Int × V) × List (List Int) × Int × Unit) (fun x => x) (fun (f,s,(),i,els,envs,need,()) => (f.length - i).toNat) (fun _ => rfl) (by kernel_rfl) (by kernel_rfl) ?_ (by kernel_rfl) trivial ?_
  · intro e S L' h
    unfold X_rct0 at h
    split at h <;> first | (cases h; done) | (cases h; kernel_rfl) | (rcases bif_some h with h | h <;> cases h <;> kernel_rfl)
  · rintro ⟨f,s,⟨⟩,i,els,envs,need,⟨⟩⟩ hinv Q hQ
    refine hold_of_eq (B_rct0 f s i els envs need) ?_
    obtain ⟨he,h1,⟨h2,h3⟩,h4,h5⟩:=hinv
    have k:=houseE_ok he
    have k10:=k.e10
    dsimp only at k10
    unfold O_rct0 at hQ
    dsimp only at hQ
    obtain ⟨S,rfl⟩:=Int.eq_ofNat_of_zero_le h2
    rw [Int.toNat_natCast] at hQ
    rw [W_id (n:=i + 1) (by omega) (by omega)]
    refine ⟨fun c1 => ?_,fun c1 => ?_⟩
    · have c1:=of_decide_eq_true c1
      have mm:((f.length:Int) - (i + 1)).toNat < ((f.length:Int) - i).toNat:=by omega
      have inv:inv_rct0 (f,(S:Int),(),i + 1,els,envs,need,()):=⟨he,h1,⟨by omega,h3⟩,by omega,by omega⟩
      rw [mod_bit S h4 (by omega) (by omega)]
      rw [show ((f.length:Int) - i).toNat = ((f.length:Int) - (i + 1)).toNat + 1 by omega,rcA,show i.toNat + 1 = (i + 1).toNat by omega] at hQ
      have fin:Tree.holds Q (.cond (rcA (els,envs,need) f S ((f.length:Int) - (i + 1)).toNat (i + 1).toNat) (.leaf (.exit 0,L_rct0_1.st noU ())) (.leaf (.ret,L_rct0_0.st noU (false,())))) → Tree.holds Q (O_rct0 (f,(S:Int),(),i + 1,els,envs,need,())):=fun h => by
        unfold O_rct0
        dsimp only
        rw [Int.toNat_natCast]
        exact h
      refine ⟨h4,by decide,⟨fun c2 => ?_,fun c2 => ?_⟩⟩
      · have c2:S.testBit i.toNat = false:=by
          cases c:S.testBit i.toNat with
          | false => rfl
          | true => rw [c] at c2; cases c2
        rw [if_pos c2] at hQ
        exact ⟨⟨inv,mm⟩,fin hQ⟩
      · have c2:S.testBit i.toNat = true:=by
          cases c:S.testBit i.toNat with
          | true => rfl
          | false => rw [c] at c2; cases c2
        rw [if_neg (by rw [c2]; decide)] at hQ
        have hge:1 <<< i.toNat ≤ S:=by
          rw [Nat.one_shiftLeft]
          exact Nat.ge_two_pow_of_testBit c2
        have e1:shlI .i64 1 i = ((1 <<< i.toNat:Nat):Int):=by rw [shlL h4 (by omega),Nat.one_shiftLeft]
        have e2:∀ z:Nat,z ≤ S → IntKind.i64.wrap ((S:Int) - (z:Int)) = ((S - z:Nat):Int) ∧ S - z < 1024:=fun z hz => by
          rw [W_id (by omega) (by omega)]
          omega
        have e3:=(e2 _ hge).2
        rw [e1,(e2 _ hge).1,Int.toNat_natCast]
        refine ⟨⟨h4,c1⟩,⟨fun c3 => ?_,fun c3 => ⟨h4,⟨⟨Int.natCast_nonneg _,Int.ofNat_lt.2 e3⟩,by omega⟩,⟨he,?_⟩,⟨fun c4 => ?_,fun c4 => ?_⟩⟩⟩⟩
        · have c3:f.getD i.toNat false = false:=by simpa using c3
          rw [if_pos (by rw [c3]; rfl)] at hQ
          exact hQ.2 rfl
        · refine ⟨by have:=k.v8; dsimp only at this; omega,fun q hq => ?_⟩
          rw [woF_len,h1]
          obtain ⟨_,a2,a3⟩:=k.ev q hq
          exact ⟨by omega,a3⟩
        · have c4:(proofF (els,envs,need) (woF f 0 (S - 1 <<< i.toNat))).isSome = false:=by simpa using c4
          rw [if_pos (by rw [c4,Bool.not_false,Bool.or_true])] at hQ
          exact hQ.2 rfl
        · have c3:f.getD i.toNat false = true:=by simpa using c3
          have c4:(proofF (els,envs,need) (woF f 0 (S - 1 <<< i.toNat))).isSome = true:=by simpa using c4
          rw [if_neg (by rw [c3,c4]; decide)] at hQ
          exact ⟨⟨inv,mm⟩,fin hQ⟩
    · have c1:=of_decide_eq_false c1
      rw [show ((f.length:Int) - i).toNat = 0 by omega,rcA] at hQ
      exact hQ.1 rfl
theorem T_rcut (h_0:List (Int × V)) (h_1:List (List Int)) (h_2:Int) (f:List Bool) (s:Int):fnTree (P:=P) [c_without.gc,c_rholds.gc] (lpOf [(0,R_rct0)]) Tryz.f94 (encL 0 [.agg (.pair (.sl (.pair tI tV)) (.pair (.sl tIs) tI)),.val (.sl .bool),.val tI] ((h_0,(h_1,h_2)),f,s,())) =
  Tree.need (((0:Int) ≤ s ∧ s < (1024:Int)) ∧ List.length f ≤ (10:Nat)) (.need (houseE (h_0,h_1,h_2) = (0:Int) ∧ flOk (woF f (0:Nat) (Int.toNat s)) h_1) (.cond (Option.isSome (proofF (h_0,h_1,h_2) (woF f (0:Nat) (Int.toNat s)))) (.leaf (SV.bool false)) (.need (inv_rct0 (f,s,(),(0:Int),h_0,h_1,h_2,())) (.cond (rcA (h_0,h_1,h_2) f (Int.toNat s) (Int.toNat ((f.length:Int) - (0:Int))) (Int.toNat (0:Int))) (.leaf (SV.bool true)) (.leaf (SV.bool false)))))):=by kernel_rfl
def c_rcut:PC P:=PC.of (α:=(List (Int × V) × (List (List Int) × Int)) × List Bool × Int × Unit) 94 [.agg (.pair (.sl (.pair tI tV)) (.pair (.sl tIs) tI)),.val (.sl .bool),.val tI] (fun x => x) (fun x => x) (fun _ => rfl)
  (fun x => some (houseE x.1 = 0 ∧ x.2.1.length = x.1.1.length ∧ 0 ≤ x.2.2.1 ∧ x.2.2.1 < 1024))
  (fun x => .bool (rcB x.1 x.2.1 x.2.2.1.toNat)) (by kernel_rfl) (by
    rintro ⟨⟨h_0,⟨h_1,h_2⟩⟩,f,s,⟨⟩⟩ hp
    refine fn_of hm (by kernel_rfl) (by kernel_rfl) (T_rcut h_0 h_1 h_2 f s) ⟨K_rct0,trivial⟩ ?_
    try dsimp only at hp
    try dsimp only
    obtain ⟨he,h1,h2,h3⟩ : houseE (h_0,(h_1,h_2)) = 0 ∧ f.length = h_0.length ∧ 0 ≤ s ∧ s < 1024:=hp
    have k:=houseE_ok he
    have k10:=k.e10
    dsimp only at k10
    unfold rcB
    refine ⟨⟨⟨h2,h3⟩,by omega⟩,⟨he,?_⟩,⟨fun c1 => ?_,fun c1 => ⟨⟨he,h1,⟨h2,h3⟩,by decide,by omega⟩,⟨fun c2 => ?_,fun c2 => ?_⟩⟩⟩⟩
    · refine ⟨by have:=k.v8; dsimp only at this; omega,fun q hq => ?_⟩
      rw [woF_len,h1]
      obtain ⟨_,a2,a3⟩:=k.ev q hq
      exact ⟨by omega,a3⟩
    · rw [show (proofF (h_0,(h_1,h_2)) (woF f 0 s.toNat)).isSome = true from c1]; exact rfl
    · rw [show (proofF (h_0,(h_1,h_2)) (woF f 0 s.toNat)).isSome = false from c1]
      rw [Int.sub_zero,Int.toNat_natCast] at c2
      exact congrArg SV.bool c2.symm
    · rw [show (proofF (h_0,(h_1,h_2)) (woF f 0 s.toNat)).isSome = false from c1]
      rw [Int.sub_zero,Int.toNat_natCast] at c2
      exact congrArg SV.bool c2.symm)
def L_rlist0:Lay:={ slots:=[(0,.val tI),(3,.row 3 tI),(4,.val tI)] }
def L_rlist0_0:Lay:={ slots:=[(3,.row 3 tI)] }
def X_rlist0:Exit → St → Option Lay
  | .exit 0,_ => some L_rlist0_0
  | _,_ => none
abbrev C_rlist0:Code:=loopC (bodyOf Tryz.f95) 0
theorem B_rlist0 (s:Int) (out:List Int) (i:Int):loopBodyA (P:=P) [] (lpOf []) [] 19 noU (inner C_rlist0) L_rlist0 X_rlist0 (α:=Int × List Int × Int × Unit) (fun x => x) (fun x => x) (s,out,i,()) =
  Tree.cond (decide (i < (10:Int))) (.need ((0:Int) ≤ i) (.need ((2:Int) ≠ (0:Int)) (.cond (Int.tmod (shrI IntKind.i64 s i) (2:Int) == (1:Int)) (.need ((List.length out + List.length [i]) * (8:Nat) ≤ (140737488355328:Nat)) (.leaf (Sum.inl (s,out ++ [i],IntKind.i64.wrap (i + (1:Int)),())))) (.leaf (Sum.inl (s,out,IntKind.i64.wrap (i + (1:Int)),())))))) (.leaf (Sum.inr (Exit.exit (0:Nat),Lay.st L_rlist0_0 noU (out,())))):=by kernel_rfl
def inv_rlist0:Int × List Int × Int × Unit → Prop:=fun (s,out,i,()) => (0 ≤ s ∧ s < 1024) ∧ 0 ≤ i ∧ i ≤ 10 ∧ (out.length:Int) ≤ i
def O_rlist0:Int × List Int × Int × Unit → Tree (Exit × St):=fun (s,out,i,()) => (.leaf (.exit 0,L_rlist0_0.st noU ((out ++ lsA s.toNat (10 - i).toNat i),())))
def R_rlist0:LRun:=runOf 19 L_rlist0 (fun x => x) (inv_rlist0) (O_rlist0)
theorem K_rlist0:LoopOk P [] 19 none noU C_rlist0 (R_rlist0):=by
  refine loop_of hm (cx:=[]) [] (xl:=X_rlist0) (α:=Int × List Int × Int × Unit) (fun x => x) (fun (s,out,i,()) => (10 - i).toNat) (fun _ => rfl) (by kernel_rfl) (by kernel_rfl) ?_ (by kernel_rfl) trivial ?_
  · intro e S L' h
    unfold X_rlist0 at h
    split at h <;> first | (cases h; done) | (cases h; kernel_rfl) | (rcases bif_some h with h | h <;> cases h <;> kernel_rfl)
  · rintro ⟨s,out,i,⟨⟩⟩ hinv Q hQ
    refine hold_of_eq (B_rlist0 s out i) ?_
    obtain ⟨⟨h0,h1⟩,h2,h3,h4⟩:=hinv
    rw [W_id (n:=i + 1) (by omega) (by omega)]
    obtain ⟨S,rfl⟩:=Int.eq_ofNat_of_zero_le h0
    unfold O_rlist0 at hQ
    dsimp only at hQ
    rw [Int.toNat_natCast] at hQ
    rw [mod_bit S h2 (by omega) (by omega)]
    have fin:∀ z:List Int,Tree.holds Q (.leaf (.exit 0,L_rlist0_0.st noU (z ++ lsA S (10 - (i + 1)).toNat (i + 1),()))) → Tree.holds Q (O_rlist0 ((S:Int),z,i + 1,())):=fun z h => by
      unfold O_rlist0
      dsimp only
      rw [Int.toNat_natCast]
      exact h
    refine ⟨fun c1 => ⟨h2,by decide,⟨fun c2 => ⟨?_,?_⟩,fun c2 => ?_⟩⟩,fun c1 => ?_⟩
    · simp only [List.length_cons,List.length_nil]; omega
    · have c1:=of_decide_eq_true c1
      have c2:S.testBit i.toNat = true:=by
        cases c:S.testBit i.toNat with
        | true => rfl
        | false => rw [c] at c2; cases c2
      rw [show (10 - i).toNat = (10 - (i + 1)).toNat + 1 by omega,lsA,if_pos c2,List.append_cons] at hQ
      exact ⟨⟨⟨⟨by omega,h1⟩,by omega,by omega,by simp only [List.length_append,List.length_cons,List.length_nil]; omega⟩,by show (10 - (i + 1)).toNat < (10 - i).toNat; omega⟩,fin _ hQ⟩
    · have c1:=of_decide_eq_true c1
      have c2:S.testBit i.toNat = false:=by
        cases c:S.testBit i.toNat with
        | false => rfl
        | true => rw [c] at c2; cases c2
      rw [show (10 - i).toNat = (10 - (i + 1)).toNat + 1 by omega,lsA,if_neg (by rw [c2]; decide)] at hQ
      exact ⟨⟨⟨⟨by omega,h1⟩,by omega,by omega,by omega⟩,by show (10 - (i + 1)).toNat < (10 - i).toNat; omega⟩,fin _ hQ⟩
    · have c1:=of_decide_eq_false c1
      rw [show (10 - i).toNat = 0 by omega,lsA,List.append_nil] at hQ
      exact hQ
theorem T_rlist (s:Int):fnTree (P:=P) [] (lpOf [(0,R_rlist0)]) Tryz.f95 (encL 0 [.val tI] (s,())) =
  Tree.need (inv_rlist0 (s,[],(0:Int),())) (.leaf (SV.sl (Ty.int IntKind.i64) (lsA (Int.toNat s) (Int.toNat ((10:Int) - (0:Int))) (0:Int)))):=by kernel_rfl
def c_rlist:PC P:=PC.of (α:=Int × Unit) 95 [.val tI] (fun x => x) (fun x => x) (fun _ => rfl)
  (fun x => some (0 ≤ x.1 ∧ x.1 < 1024))
  (fun x => .sl tI (lsI x.1.toNat)) (by kernel_rfl) (by
    rintro ⟨s,⟨⟩⟩ hp
    refine fn_le hm (by kernel_rfl) (by kernel_rfl) (T_rlist s) ⟨K_rlist0,trivial⟩ (by kernel_rfl) ?_
    try dsimp only at hp
    try dsimp only
    refine ⟨⟨hp,by decide,by decide,by decide⟩,?_⟩
    show _ = _
    rw [show (10 - 0:Int).toNat = 10 from rfl,lsA_all])
theorem ltL_step {a b:List Int} {i:Int} (h0:0 ≤ i) (h:i < a.length) (hb:i < b.length):ltL (a.drop i.toNat) (b.drop i.toNat) = if a.getD i.toNat 0 ≠ b.getD i.toNat 0 then decide (a.getD i.toNat 0 < b.getD i.toNat 0) else ltL (a.drop (i + 1).toNat) (b.drop (i + 1).toNat):=by
  rw [drop_step (0:Int) h0 h,drop_step (0:Int) h0 hb,ltL]
def ptL:List Int → List Int → Bool
  | x :: a,y :: b => if x ≠ y then true else ptL a b
  | _,_ => false
theorem ptL_step {a b:List Int} {i:Int} (h0:0 ≤ i) (h:i < a.length) (hb:i < b.length):ptL (a.drop i.toNat) (b.drop i.toNat) = if a.getD i.toNat 0 ≠ b.getD i.toNat 0 then true else ptL (a.drop (i + 1).toNat) (b.drop (i + 1).toNat):=by
  rw [drop_step (0:Int) h0 h,drop_step (0:Int) h0 hb,ptL]
theorem ptL_ltL:∀ a b:List Int,ptL a b = false → ltL a b = false
  | x :: a,y :: b,h => by
    rw [ptL] at h
    rw [ltL]
    split at h
    · cases h
    · rename_i c
      rw [if_neg c]
      exact ptL_ltL a b h
  | [],_,_ => rfl
  | _ :: _,[],_ => rfl
def L_rbf0:Lay:={ slots:=[(0,.val tIs),(1,.val tIs),(5,.val tI)] }
def L_rbf0_0:Lay:={ slots:=[(4,.val .bool)] }
def L_rbf0_1:Lay:={ slots:=[] }
def X_rbf0:Exit → St → Option Lay
  | .ret,_ => some L_rbf0_0
  | .exit 0,_ => some L_rbf0_1
  | _,_ => none
abbrev C_rbf0:Code:=loopC (bodyOf Tryz.f96) 0
theorem B_rbf0 (a b:List Int) (i:Int):loopBodyA (P:=P) [] (lpOf []) [] 40 noU (inner C_rbf0) L_rbf0 X_rbf0 (α:=List Int × List Int × Int × Unit) (fun x => x) (fun x => x) (a,b,i,()) =
  Tree.cond (decide (i < (a.length:Int))) (.need ((0:Int) ≤ i ∧ i < (a.length:Int)) (.need ((0:Int) ≤ i ∧ i < (b.length:Int)) (.cond (List.getD a (Int.toNat i) (0:Int) != List.getD b (Int.toNat i) (0:Int)) (.need ((0:Int) ≤ i ∧ i < (a.length:Int)) (.need ((0:Int) ≤ i ∧ i < (b.length:Int)) (.leaf (Sum.inr (Exit.ret,Lay.st L_rbf0_0 noU (decide (List.getD a (Int.toNat i) (0:Int) < List.getD b (Int.toNat i) (0:Int)),())))))) (.leaf (Sum.inl (a,b,IntKind.i64.wrap (i + (1:Int)),())))))) (.leaf (Sum.inr (Exit.exit (0:Nat),Lay.st L_rbf0_1 noU ()))):=by kernel_rfl
def inv_rbf0:List Int × List Int × Int × Unit → Prop:=fun (a,b,i,()) => a.length = b.length ∧ 0 ≤ i ∧ i ≤ a.length ∧ a.length ≤ 1000
def O_rbf0:List Int × List Int × Int × Unit → Tree (Exit × St):=fun (a,b,i,()) => .cond (ptL (a.drop i.toNat) (b.drop i.toNat)) (.leaf (.ret,L_rbf0_0.st noU ((ltL (a.drop i.toNat) (b.drop i.toNat)),()))) (.leaf (.exit 0,L_rbf0_1.st noU ()))
def R_rbf0:LRun:=runOf 40 L_rbf0 (fun x => x) (inv_rbf0) (O_rbf0)
theorem K_rbf0:LoopOk P [] 40 none noU C_rbf0 (R_rbf0):=by
  refine loop_of hm (cx:=[]) [] (xl:=X_rbf0) (α:=List Int × List Int × Int × Unit) (fun x => x) (fun (a,b,i,()) => (a.length - i).toNat) (fun _ => rfl) (by kernel_rfl) (by kernel_rfl) ?_ (by kernel_rfl) trivial ?_
  · intro e S L' h
    unfold X_rbf0 at h
    split at h <;> first | (cases h; done) | (cases h; kernel_rfl) | (rcases bif_some h with h | h <;> cases h <;> kernel_rfl)
  · rintro ⟨a,b,i,⟨⟩⟩ hinv Q hQ
    refine hold_of_eq (B_rbf0 a b i) ?_
    obtain ⟨h0,h1,h2,h3⟩:=hinv
    rw [W_id (n:=i + 1) (by omega) (by omega)]
    unfold O_rbf0 at hQ
    dsimp only at hQ
    refine ⟨fun c1 => ?_,fun c1 => ?_⟩
    · have c1:=of_decide_eq_true c1
      rw [ptL_step h1 c1 (by omega),ltL_step h1 c1 (by omega)] at hQ
      refine ⟨⟨h1,c1⟩,⟨h1,by omega⟩,⟨fun c2 => ⟨⟨h1,c1⟩,⟨h1,by omega⟩,?_⟩,fun c2 => ?_⟩⟩
      · have c2:a.getD i.toNat 0 ≠ b.getD i.toNat 0:=by simpa using c2
        rw [if_pos c2,if_pos c2] at hQ
        exact hQ.1 rfl
      · have c2:¬ a.getD i.toNat 0 ≠ b.getD i.toNat 0:=by simpa using c2
        rw [if_neg c2,if_neg c2] at hQ
        exact ⟨⟨⟨h0,by omega,by omega,h3⟩,by show ((a.length:Int) - (i + 1)).toNat < ((a.length:Int) - i).toNat; omega⟩,hQ⟩
    · rw [drop_end (of_decide_eq_false c1)] at hQ
      have e:ptL [] (b.drop i.toNat) = false:=rfl
      rw [e] at hQ
      exact hQ.2 rfl
theorem T_rbefore (a b:List Int):fnTree (P:=P) [] (lpOf [(0,R_rbf0)]) Tryz.f96 (encL 0 [.val tIs,.val tIs] (a,b,())) =
  Tree.cond ((a.length:Int) != (b.length:Int)) (.leaf (SV.bool (decide ((a.length:Int) < (b.length:Int))))) (.need (inv_rbf0 (a,b,(0:Int),())) (.cond (ptL (List.drop (Int.toNat (0:Int)) a) (List.drop (Int.toNat (0:Int)) b)) (.leaf (SV.bool (ltL (List.drop (Int.toNat (0:Int)) a) (List.drop (Int.toNat (0:Int)) b)))) (.leaf (SV.bool false)))):=by kernel_rfl
def c_rbefore:PC P:=PC.of (α:=List Int × List Int × Unit) 96 [.val tIs,.val tIs] (fun x => x) (fun x => x) (fun _ => rfl)
  (fun x => some (x.1.length ≤ 1000))
  (fun x => .bool (bfoB x.1 x.2.1)) (by kernel_rfl) (by
    rintro ⟨a,b,⟨⟩⟩ hp
    refine fn_of hm (by kernel_rfl) (by kernel_rfl) (T_rbefore a b) ⟨K_rbf0,trivial⟩ ?_
    try dsimp only at hp
    try dsimp only
    have hp' : a.length ≤ 1000:=hp
    unfold bfoB
    refine ⟨fun c1 => ?_,fun c1 => ?_⟩
    · have c1:¬ (a.length:Int) = b.length:=by simpa using c1
      rw [if_pos (fun q => c1 (by omega))]
      refine congrArg SV.bool ?_
      rw [Bool.eq_iff_iff,decide_eq_true_eq,decide_eq_true_eq]
      omega
    · have c1:(a.length:Int) = b.length:=by simpa using c1
      rw [if_neg (fun q => q (by omega))]
      refine ⟨⟨by omega,by decide,by omega,hp'⟩,⟨fun c2 => rfl,fun c2 => ?_⟩⟩
      exact congrArg SV.bool (ptL_ltL a b c2).symm)
def L_rcu2:Lay:={ slots:=[(3,.ptr 4068 0),(7,.val (.sl .bool)),(8,.val (.sl tIs)),(9,.val tI),(10,.val tIs),(11,.val tI)],boxes:=[(4068,[.val (.sl (.pair tI tV)),.val (.sl tIs),.val tI])] }
def L_rcu2_0:Lay:={ slots:=[(3,.ptr 4068 0),(7,.val (.sl .bool)),(8,.val (.sl tIs)),(9,.val tI),(10,.val tIs),(11,.val tI)],boxes:=[(4068,[.val (.sl (.pair tI tV)),.val (.sl tIs),.val tI])] }
def X_rcu2:Exit → St → Option Lay
  | .exit 2,_ => some L_rcu2_0
  | _,_ => none
abbrev C_rcu2:Code:=loopC (inner (loopC (bodyOf Tryz.f43) 0)) 2
theorem B_rcu2 (f:List Bool) (out:List (List Int)) (s:Int) (x:List Int) (a:Int) (els:List (Int × V)) (envs:List (List Int)) (need:Int):loopBodyA (P:=P) [c_rbefore.gc] (lpOf []) [] 68 noU (inner C_rcu2) L_rcu2 X_rcu2 (α:=Unit × List Bool × List (List Int) × Int × List Int × Int × List (Int × V) × List (List Int) × Int × Unit) (fun x => x) (fun x => x) ((),f,out,s,x,a,els,envs,need,()) =
  Tree.cond (decide (a > (0:Int))) (.need ((0:Int) ≤ IntKind.i64.wrap (a - (1:Int)) ∧ IntKind.i64.wrap (a - (1:Int)) < (out.length:Int)) (.need (List.length x ≤ (1000:Nat)) (.cond (bfoB x (List.getD out (Int.toNat (IntKind.i64.wrap (a - (1:Int)))) [])) (.leaf (Sum.inl ((),f,out,s,x,IntKind.i64.wrap (a - (1:Int)),els,envs,need,()))) (.leaf (Sum.inr (Exit.exit (2:Nat),Lay.st L_rcu2_0 noU ((),f,out,s,x,a,els,envs,need,()))))))) (.leaf (Sum.inr (Exit.exit (2:Nat),Lay.st L_rcu2_0 noU ((),f,out,s,x,a,els,envs,need,())))):=by kernel_rfl
def inv_rcu2:Unit × List Bool × List (List Int) × Int × List Int × Int × List (Int × V) × List (List Int) × Int × Unit → Prop:=fun ((),f,out,s,x,a,els,envs,need,()) => 0 ≤ a ∧ a ≤ out.length ∧ x.length ≤ 1000 ∧ out.length ≤ 2000
def O_rcu2:Unit × List Bool × List (List Int) × Int × List Int × Int × List (Int × V) × List (List Int) × Int × Unit → Tree (Exit × St):=fun ((),f,out,s,x,a,els,envs,need,()) => (.leaf (.exit 2,L_rcu2_0.st noU ((),f,out,s,x,((atB x out a.toNat:Int)),els,envs,need,())))
def R_rcu2:LRun:=runOf 68 L_rcu2 (fun x => x) (inv_rcu2) (O_rcu2)
theorem K_rcu2:LoopOk P [] 68 none noU C_rcu2 (R_rcu2):=by
  refine loop_of hm (cx:=[c_rbefore.gc]) [] (xl:=X_rcu2) (α:=Unit × List Bool × List (List Int) × Int × List Int × Int × List (Int × V) × List (List Int) × Int × Unit) (fun x => x) (fun ((),f,out,s,x,a,els,envs,need,()) => a.toNat) (fun _ => rfl) (by kernel_rfl) (by kernel_rfl) ?_ (by kernel_rfl) trivial ?_
  · intro e S L' h
    unfold X_rcu2 at h
    split at h <;> first | (cases h; done) | (cases h; kernel_rfl) | (rcases bif_some h with h | h <;> cases h <;> kernel_rfl)
  · rintro ⟨⟨⟩,f,out,s,x,a,els,envs,need,⟨⟩⟩ hinv Q hQ
    refine hold_of_eq (B_rcu2 f out s x a els envs need) ?_
    obtain ⟨h0,h1,h2,h3⟩:=hinv
    unfold O_rcu2 at hQ
    dsimp only at hQ
    refine ⟨fun c1 => ?_,fun c1 => ?_⟩
    · have c1:a > 0:=of_decide_eq_true c1
      rw [W_id (n:=a - 1) (by omega) (by omega)]
      rw [show a.toNat = (a - 1).toNat + 1 by omega,atB] at hQ
      refine ⟨⟨by omega,by omega⟩,h2,⟨fun c2 => ?_,fun c2 => ?_⟩⟩
      · rw [if_pos (show bfoB x (out.getD (a - 1).toNat []) = true from c2)] at hQ
        exact ⟨⟨⟨by omega,by omega,h2,h3⟩,by show (a - 1).toNat < a.toNat; omega⟩,hQ⟩
      · rw [if_neg (by rw [show bfoB x (out.getD (a - 1).toNat []) = false from c2]; decide),show (((a - 1).toNat + 1:Nat):Int) = a by omega] at hQ
        exact hQ
    · have c1:¬ a > 0:=of_decide_eq_false c1
      rw [show a.toNat = 0 by omega,atB,show ((0:Nat):Int) = a by omega] at hQ
      exact hQ
def L_rcu0:Lay:={ slots:=[(3,.ptr 4068 0),(7,.val (.sl .bool)),(8,.row 31 tIs),(9,.val tI)],boxes:=[(4068,[.val (.sl (.pair tI tV)),.val (.sl tIs),.val tI])] }
def L_rcu0_0:Lay:={ slots:=[(8,.row 31 tIs)] }
def X_rcu0:Exit → St → Option Lay
  | .exit 0,_ => some L_rcu0_0
  | _,_ => none
abbrev C_rcu0:Code:=loopC (bodyOf Tryz.f43) 0
theorem B_rcu0 (f:List Bool) (out:List (List Int)) (s:Int) (els:List (Int × V)) (envs:List (List Int)) (need:Int):loopBodyA (P:=P) [c_rcut.gc,c_rlist.gc] (lpOf [(2,R_rcu2)]) [] 68 noU (inner C_rcu0) L_rcu0 X_rcu0 (α:=Unit × List Bool × List (List Int) × Int × List (Int × V) × List (List Int) × Int × Unit) (fun x => x) (fun x => x) ((),f,out,s,els,envs,need,()) =
  Tree.need ((0:Int) ≤ (f.length:Int)) (.cond (decide (s < shlI IntKind.i64 (1:Int) (f.length:Int))) (.need (houseE (els,envs,need) = (0:Int) ∧ List.length f = List.length els ∧ (0:Int) ≤ s ∧ s < (1024:Int)) (.cond (!rcB (els,envs,need) f (Int.toNat s)) (.leaf (Sum.inl ((),f,out,IntKind.i64.wrap (s + (1:Int)),els,envs,need,()))) (.need ((0:Int) ≤ s ∧ s < (1024:Int)) (.need (inv_rcu2 ((),f,out,s,lsI (Int.toNat s),(out.length:Int),els,envs,need,())) (.need ((0:Int) ≤ (0:Int) ∧ (0:Int) ≤ (↑(atB (lsI (Int.toNat s)) out (Int.toNat (out.length:Int))):Int) ∧ (↑(atB (lsI (Int.toNat s)) out (Int.toNat (out.length:Int))):Int) ≤ (out.length:Int)) (.need (((0:Nat) + List.length (List.drop (Int.toNat (0:Int)) (List.take (Int.toNat (↑(atB (lsI (Int.toNat s)) out (Int.toNat (out.length:Int))):Int)) out))) * (24:Nat) ≤ (140737488355328:Nat)) (.need ((List.length (List.drop (Int.toNat (0:Int)) (List.take (Int.toNat (↑(atB (lsI (Int.toNat s)) out (Int.toNat (out.length:Int))):Int)) out)) + List.length [lsI (Int.toNat s)]) * (24:Nat) ≤ (140737488355328:Nat)) (.need ((0:Int) ≤ (↑(atB (lsI (Int.toNat s)) out (Int.toNat (out.length:Int))):Int) ∧ (↑(atB (lsI (Int.toNat s)) out (Int.toNat (out.length:Int))):Int) ≤ (out.length:Int) ∧ (out.length:Int) ≤ (out.length:Int)) (.need ((List.length (List.drop (Int.toNat (0:Int)) (List.take (Int.toNat (↑(atB (lsI (Int.toNat s)) out (Int.toNat (out.length:Int))):Int)) out) ++ [lsI (Int.toNat s)]) + List.length (List.drop (Int.toNat (↑(atB (lsI (Int.toNat s)) out (Int.toNat (out.length:Int))):Int)) (List.take (Int.toNat (out.length:Int)) out))) * (24:Nat) ≤ (140737488355328:Nat)) (.leaf (Sum.inl ((),f,List.drop (Int.toNat (0:Int)) (List.take (Int.toNat (↑(atB (lsI (Int.toNat s)) out (Int.toNat (out.length:Int))):Int)) out) ++ [lsI (Int.toNat s)] ++ List.drop (Int.toNat (↑(atB (lsI (Int.toNat s)) out (Int.toNat (out.length:Int))):Int)) (List.take (Int.toNat (out.length:Int)) out),IntKind.i64.wrap (s + (1:Int)),els,envs,need,())))))))))))) (.leaf (Sum.inr (Exit.exit (0:Nat),Lay.st L_rcu0_0 noU (out,()))))):=by kernel_rfl
def inv_rcu0:Unit × List Bool × List (List Int) × Int × List (Int × V) × List (List Int) × Int × Unit → Prop:=fun ((),f,out,s,els,envs,need,()) => houseE (els,envs,need) = 0 ∧ f.length = els.length ∧ 1 ≤ s ∧ s ≤ ((2 ^ f.length:Nat):Int) ∧ (out.length:Int) ≤ s
def O_rcu0:Unit × List Bool × List (List Int) × Int × List (Int × V) × List (List Int) × Int × Unit → Tree (Exit × St):=fun ((),f,out,s,els,envs,need,()) => (.leaf (.exit 0,L_rcu0_0.st noU ((rcS (els,envs,need) f (2 ^ f.length - s.toNat) s.toNat out),())))
def R_rcu0:LRun:=runOf 68 L_rcu0 (fun x => x) (inv_rcu0) (O_rcu0)
theorem K_rcu0:LoopOk P [] 68 none noU C_rcu0 (R_rcu0):=by
  refine loop_of hm (cx:=[c_rcut.gc,c_rlist.gc]) [(2,R_rcu2)] (xl:=X_rcu0) (α:=Unit × List Bool × List (List Int) × Int × List (Int × V) × List (List Int) × Int × Unit) (fun x => x) (fun ((),f,out,s,els,envs,need,()) => (2000 - s).toNat) (fun _ => rfl) (by kernel_rfl) (by kernel_rfl) ?_ (by kernel_rfl) ⟨K_rcu2,trivial⟩ ?_
  · intro e S L' h
    unfold X_rcu0 at h
    split at h <;> first | (cases h; done) | (cases h; kernel_rfl) | (rcases bif_some h with h | h <;> cases h <;> kernel_rfl)
  · rintro ⟨⟨⟩,f,out,s,els,envs,need,⟨⟩⟩ hinv Q hQ
    refine hold_of_eq (B_rcu0 f out s els envs need) ?_
    obtain ⟨he,h1,h2,h3,h4⟩:=hinv
    have k:=houseE_ok he
    have k10:=k.e10
    dsimp only at k10
    have hp:=pow_le (n:=f.length) (by omega)
    obtain ⟨S,rfl⟩:=Int.eq_ofNat_of_zero_le (show 0 ≤ s by omega)
    unfold O_rcu0 at hQ
    dsimp only at hQ
    rw [Int.toNat_natCast] at hQ
    rw [shlL (by omega) (by omega),W_id (n:=(S:Int) + 1) (by omega) (by omega),Int.toNat_natCast]
    refine ⟨by omega,⟨fun c1 => ?_,fun c1 => ?_⟩⟩
    · have c1:=of_decide_eq_true c1
      rw [show 2 ^ f.length - S = 2 ^ f.length - (S + 1) + 1 by omega,rcS] at hQ
      have mm:((2000:Int) - ((S:Int) + 1)).toNat < ((2000:Int) - (S:Int)).toNat:=by omega
      have fin:∀ z:List (List Int),(z.length:Int) ≤ (S:Int) + 1 → Tree.holds Q (.leaf (.exit 0,L_rcu0_0.st noU (rcS (els,envs,need) f (2 ^ f.length - (S + 1)) (S + 1) z,()))) → (inv_rcu0 ((),f,z,(S:Int) + 1,els,envs,need,()) ∧ ((2000:Int) - ((S:Int) + 1)).toNat < ((2000:Int) - (S:Int)).toNat) ∧ Tree.holds Q (O_rcu0 ((),f,z,(S:Int) + 1,els,envs,need,())):=fun z hz h => by
        refine ⟨⟨⟨he,h1,by omega,by omega,hz⟩,mm⟩,?_⟩
        unfold O_rcu0
        dsimp only
        rw [show ((S:Int) + 1).toNat = S + 1 by omega]
        exact h
      refine ⟨⟨he,h1,by omega,by omega⟩,⟨fun c2 => ?_,fun c2 => ?_⟩⟩
      · have c2:rcB (els,envs,need) f S = false:=by simpa using c2
        rw [if_neg (by rw [c2]; decide)] at hQ
        exact fin out (by omega) hQ
      · have c2:rcB (els,envs,need) f S = true:=by simpa using c2
        rw [if_pos c2] at hQ
        have hl:=insR_len (lsI S) out
        have ha:=(atB_ok (lsI S) out out.length).1
        unfold insR at hQ hl
        have c10:=cnt_le10 S
        rw [Int.toNat_natCast,Int.toNat_natCast,Int.toNat_natCast,show List.drop (Int.toNat 0) (List.take (atB (lsI S) out out.length) out) = List.take (atB (lsI S) out out.length) out from rfl,List.take_length]
        generalize atB (lsI S) out out.length = q at *
        have l1:(List.take q out).length = q:=by rw [List.length_take]; omega
        have l2:(List.drop q out).length = out.length - q:=List.length_drop
        refine ⟨⟨by omega,by omega⟩,⟨by omega,by omega,by rw [lsI_len]; omega,by omega⟩,⟨by omega,by omega,by omega⟩,by rw [l1]; omega,by rw [l1,List.length_singleton]; omega,⟨by omega,by omega,by omega⟩,?_,?_⟩
        · rw [List.length_append,l1,List.length_singleton,l2]; omega
        · exact fin _ (by rw [hl]; omega) hQ
    · have c1:=of_decide_eq_false c1
      rw [show 2 ^ f.length - S = 0 by omega,rcS] at hQ
      exact hQ
theorem T_rCuts (h_0:List (Int × V)) (h_1:List (List Int)) (h_2 tick press:Int):fnTree (P:=P) [c_rHouse.gc,c_rHolds.gc,c_sound.gc] (lpOf [(0,R_rcu0)]) Tryz.f43 (encL 0 [.agg (.pair (.sl (.pair tI tV)) (.pair (.sl tIs) tI)),.val tI,.val tI] ((h_0,(h_1,h_2)),tick,press,())) =
  Tree.need (hOk (h_0,h_1,h_2)) (.cond (houseE (h_0,h_1,h_2) != (0:Int)) (.leaf SV.nils) (.need (houseE (h_0,h_1,h_2) = (0:Int)) (.cond (!holdsS (h_0,h_1,h_2) tick press) (.leaf SV.nils) (.need (List.length h_0 ≤ (1000:Nat)) (.need (inv_rcu0 ((),soundF (h_0,h_1,h_2) tick press,[],(1:Int),h_0,h_1,h_2,())) (.leaf (SV.sl (Ty.sl tI) (rcS (h_0,h_1,h_2) (soundF (h_0,h_1,h_2) tick press) ((2:Nat) ^ List.length (soundF (h_0,h_1,h_2) tick press) - Int.toNat (1:Int)) (Int.toNat (1:Int)) [])))))))):=by kernel_rfl
def c_rCuts:PC P:=PC.of (α:=(List (Int × V) × (List (List Int) × Int)) × Int × Int × Unit) 43 [.agg (.pair (.sl (.pair tI tV)) (.pair (.sl tIs) tI)),.val tI,.val tI] (fun x => x) (fun x => x) (fun _ => rfl)
  (fun x => some (hOk x.1))
  (fun x => .sl tIs (rcutsS x.1 x.2.1 x.2.2.1)) (by kernel_rfl) (by
    rintro ⟨⟨h_0,⟨h_1,h_2⟩⟩,tick,press,⟨⟩⟩ hp
    refine fn_le hm (by kernel_rfl) (by kernel_rfl) (T_rCuts h_0 h_1 h_2 tick press) ⟨K_rcu0,trivial⟩ (by kernel_rfl) ?_
    try dsimp only at hp
    try dsimp only
    have hp' : hOk (h_0,(h_1,h_2)):=hp
    show Tree.holds (fun s => LeS s (SV.sl tIs (rcutsS (h_0,(h_1,h_2)) tick press))) _
    unfold rcutsS
    refine ⟨hp',⟨fun c1 => ?_,fun c1 => ?_⟩⟩
    · rw [if_pos (.inl (by simpa using c1))]; exact rfl
    have c1:houseE (h_0,(h_1,h_2)) = 0:=by simpa using c1
    have k:=houseE_ok c1
    have k10:=k.e10
    have sl:=soundF_len (h_0,(h_1,h_2)) tick press
    dsimp only at k10 sl
    refine ⟨c1,⟨fun c2 => ?_,fun c2 => ?_⟩⟩
    · rw [if_pos (.inr (by simpa using c2))]; exact rfl
    have c2:holdsS (h_0,(h_1,h_2)) tick press = true:=by simpa using c2
    have hne:¬ (houseE (h_0,(h_1,h_2)) ≠ 0 ∨ holdsS (h_0,(h_1,h_2)) tick press = false):=fun q => by
      rcases q with q | q
      · exact q c1
      · rw [c2] at q; cases q
    rw [if_neg hne,sl]
    exact ⟨by omega,⟨c1,sl,by decide,by rw [sl]; have:=Nat.pow_pos (n:=h_0.length) (show 0 < 2 by decide); omega,by decide⟩,rfl⟩)
theorem T_rLapse (h_0:List (Int × V)) (h_1:List (List Int)) (h_2 tick press:Int):fnTree (P:=P) [c_rHouse.gc,c_rHolds.gc,c_between.gc,c_rlapse.gc] (lpOf []) Tryz.f41 (encL 0 [.agg (.pair (.sl (.pair tI tV)) (.pair (.sl tIs) tI)),.val tI,.val tI] ((h_0,(h_1,h_2)),tick,press,())) =
  Tree.need (hOk (h_0,h_1,h_2)) (.cond (houseE (h_0,h_1,h_2) != (0:Int)) (.leaf (SV.tup [SV.int IntKind.i64 (0:Int),SV.bool false])) (.cond (!wi tick (0:Int) (1099511627776:Int)) (.leaf (SV.tup [SV.int IntKind.i64 (0:Int),SV.bool false])) (.need (houseE (h_0,h_1,h_2) = (0:Int)) (.cond (!holdsS (h_0,h_1,h_2) tick press) (.leaf (SV.tup [SV.int IntKind.i64 (0:Int),SV.bool false])) (.need (houseE (h_0,h_1,h_2) = (0:Int) ∧ (0:Int) ≤ tick ∧ tick ≤ (4398046511104:Int)) (.leaf (SV.tup [SV.int IntKind.i64 (lpE (h_0,h_1,h_2) tick press),SV.bool true]))))))):=by kernel_rfl
def c_rLapse:PC P:=PC.of (α:=(List (Int × V) × (List (List Int) × Int)) × Int × Int × Unit) 41 [.agg (.pair (.sl (.pair tI tV)) (.pair (.sl tIs) tI)),.val tI,.val tI] (fun x => x) (fun x => x) (fun _ => rfl)
  (fun x => some (hOk x.1))
  (fun x => .tup [.int .i64 (lapS x.1 x.2.1 x.2.2.1).1,.bool (lapS x.1 x.2.1 x.2.2.1).2]) (by kernel_rfl) (by
    rintro ⟨⟨h_0,⟨h_1,h_2⟩⟩,tick,press,⟨⟩⟩ hp
    refine fn_of hm (by kernel_rfl) (by kernel_rfl) (T_rLapse h_0 h_1 h_2 tick press) trivial ?_
    try dsimp only at hp
    try dsimp only
    have hp' : hOk (h_0,(h_1,h_2)):=hp
    show Tree.holds (fun s => s = SV.tup [.int .i64 (lapS (h_0,(h_1,h_2)) tick press).1,.bool (lapS (h_0,(h_1,h_2)) tick press).2]) _
    unfold lapS
    refine ⟨hp',⟨fun c1 => ?_,fun c1 => ⟨fun c2 => ?_,fun c2 => ?_⟩⟩⟩
    · rw [if_pos (.inl (by simpa using c1))]; exact rfl
    · rw [if_pos (.inr (.inl (by simpa using c2)))]; exact rfl
    have c1:houseE (h_0,(h_1,h_2)) = 0:=by simpa using c1
    have c2:wi tick 0 1099511627776 = true:=by simpa using c2
    obtain ⟨t0,t1⟩:=wi_iff.1 c2
    refine ⟨c1,⟨fun c3 => ?_,fun c3 => ⟨⟨c1,t0,by omega⟩,?_⟩⟩⟩
    · rw [if_pos (.inr (.inr (by simpa using c3)))]; exact rfl
    have c3:holdsS (h_0,(h_1,h_2)) tick press = true:=by simpa using c3
    rw [if_neg (fun q => ?_)]
    · show SV.tup [.int .i64 (lpE (h_0,(h_1,h_2)) tick press),.bool true] = _
      rw [lapse_some c1 (by omega)]
      rfl
    · rcases q with q | q | q
      · exact q c1
      · rw [c2] at q; cases q
      · rw [c3] at q; cases q)
end
end Go.MB
