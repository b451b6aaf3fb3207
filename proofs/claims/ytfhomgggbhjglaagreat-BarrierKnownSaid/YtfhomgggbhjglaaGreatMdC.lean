/- Cuts: how many elements a set has, their list, the comparison of lists. -/
import Derived.Test.YtfhomgggbhjglaaGreatMdB
namespace Go.MB
open Go Go.Sx Go.Proofs
set_option linter.unusedVariables false
set_option linter.unusedSimpArgs false
noncomputable section
def o1 (x:Int):Int:=IntKind.u64.wrap (bits .and .u64 (shrI .u64 x 1) 6148914691236517205 + bits .and .u64 x 6148914691236517205)
def o2 (x:Int):Int:=IntKind.u64.wrap (bits .and .u64 (shrI .u64 x 2) 3689348814741910323 + bits .and .u64 x 3689348814741910323)
def o3 (x:Int):Int:=bits .and .u64 (IntKind.u64.wrap (shrI .u64 x 4 + x)) 1085102592571150095
def o4 (x:Int):Int:=IntKind.u64.wrap (x + shrI .u64 x 8)
def o5 (x:Int):Int:=IntKind.u64.wrap (x + shrI .u64 x 16)
def o6 (x:Int):Int:=IntKind.u64.wrap (x + shrI .u64 x 32)
def o7 (x:Int):Int:=bits .and .i64 (IntKind.i64.wrap x) 127
theorem on64_all:((List.range 1024).all fun n => decide (o7 (o6 (o5 (o4 (o3 (o2 (o1 (n:Int))))))) = (cnt n:Int))) = true:=by kernel_rfl
theorem on64 {x:Int} (h0:0 ≤ x) (h1:x < 1024):o7 (o6 (o5 (o4 (o3 (o2 (o1 x)))))) = (cnt x.toNat:Int):=by
  obtain ⟨n,rfl⟩:=Int.eq_ofNat_of_zero_le h0
  have:=List.all_eq_true.1 on64_all n (List.mem_range.2 (by omega))
  rw [Int.toNat_natCast]
  exact of_decide_eq_true this
theorem T_ones64 (x:Int) (x2_:Int) (hx2_:x2_ = (IntKind.u64.wrap (bits BinOp.and IntKind.u64 (shrI IntKind.u64 x (1:Int)) (6148914691236517205:Int) + bits BinOp.and IntKind.u64 x (6148914691236517205:Int)))) (x1_:Int) (hx1_:x1_ = (IntKind.u64.wrap (shrI IntKind.u64 (IntKind.u64.wrap (bits BinOp.and IntKind.u64 (shrI IntKind.u64 x2_ (2:Int)) (3689348814741910323:Int) + bits BinOp.and IntKind.u64 x2_ (3689348814741910323:Int))) (4:Int) + IntKind.u64.wrap (bits BinOp.and IntKind.u64 (shrI IntKind.u64 x2_ (2:Int)) (3689348814741910323:Int) + bits BinOp.and IntKind.u64 x2_ (3689348814741910323:Int))))):fnTree (P:=P) [] (lpOf []) Tryz.f121 (encL 0 [.val (.int .u64)] (x,())) =
  Tree.need ((0:Int) ≤ (1:Int)) (.need ((0:Int) ≤ (2:Int)) (.need ((0:Int) ≤ (4:Int)) (.need ((0:Int) ≤ (8:Int)) (.need ((0:Int) ≤ (16:Int)) (.need ((0:Int) ≤ (32:Int)) (.leaf (SV.int IntKind.i64 (bits BinOp.and IntKind.i64 (IntKind.i64.wrap (IntKind.u64.wrap (IntKind.u64.wrap (IntKind.u64.wrap (bits BinOp.and IntKind.u64 x1_ (1085102592571150095:Int) + shrI IntKind.u64 (bits BinOp.and IntKind.u64 x1_ (1085102592571150095:Int)) (8:Int)) + shrI IntKind.u64 (IntKind.u64.wrap (bits BinOp.and IntKind.u64 x1_ (1085102592571150095:Int) + shrI IntKind.u64 (bits BinOp.and IntKind.u64 x1_ (1085102592571150095:Int)) (8:Int))) (16:Int)) + shrI IntKind.u64 (IntKind.u64.wrap (IntKind.u64.wrap (bits BinOp.and IntKind.u64 x1_ (1085102592571150095:Int) + shrI IntKind.u64 (bits BinOp.and IntKind.u64 x1_ (1085102592571150095:Int)) (8:Int)) + shrI IntKind.u64 (IntKind.u64.wrap (bits BinOp.and IntKind.u64 x1_ (1085102592571150095:Int) + shrI IntKind.u64 (bits BinOp.and IntKind.u64 x1_ (1085102592571150095:Int)) (8:Int))) (16:Int))) (32:Int)))) (127:Int))))))))):=by
  subst hx1_; subst hx2_; kernel_rfl
def c_ones64:PC P:=PC.of (α:=Int × Unit) 121 [.val (.int .u64)] (fun x => x) (fun x => x) (fun _ => rfl)
  (fun x => some (0 ≤ x.1 ∧ x.1 < 1024))
  (fun x => .int .i64 (cnt x.1.toNat:Int)) (by kernel_rfl) (by
    rintro ⟨x,⟨⟩⟩ hp
    refine fn_of hm (by kernel_rfl) (by kernel_rfl) (T_ones64 x _ rfl _ rfl) trivial ?_
    try dsimp only at hp
    try dsimp only
    obtain ⟨h0,h1⟩ : 0 ≤ x ∧ x < 1024:=hp
    refine ⟨by decide,by decide,by decide,by decide,by decide,by decide,?_⟩
    exact congrArg (SV.int .i64) (on64 h0 h1))
theorem T_ones (x:Int):fnTree (P:=P) [c_ones64.gc] (lpOf []) Tryz.f84 (encL 0 [.val (.int .u64)] (x,())) =
  Tree.need ((0:Int) ≤ x ∧ x < (1024:Int)) (.leaf (SV.int IntKind.i64 (↑(cnt (Int.toNat x)):Int))):=by kernel_rfl
def c_ones:PC P:=PC.of (α:=Int × Unit) 84 [.val (.int .u64)] (fun x => x) (fun x => x) (fun _ => rfl)
  (fun x => some (0 ≤ x.1 ∧ x.1 < 1024))
  (fun x => .int .i64 (cnt x.1.toNat:Int)) (by kernel_rfl) (by
    rintro ⟨x,⟨⟩⟩ hp
    refine fn_of hm (by kernel_rfl) (by kernel_rfl) (T_ones x) trivial ?_
    try dsimp only at hp
    try dsimp only
    exact ⟨hp,rfl⟩)
theorem shr_bit (S:Nat) {i:Int} (hS:S < 1024) (hi:0 ≤ i) (h:i < 10):(bits .and .u64 (shrI .u64 (S:Int) i) 1 == 1) = S.testBit i.toNat:=by
  have e:shrI .u64 (S:Int) i = ((S / 2 ^ i.toNat:Nat):Int):=by
    show (S:Int).fdiv (2 ^ min i.toNat 64) = _
    rw [show min i.toNat 64 = i.toNat by omega]
    have e:((2:Int) ^ i.toNat) = ((2 ^ i.toNat:Nat):Int):=by simp
    rw [e,Int.fdiv_eq_ediv_of_nonneg _ (Int.natCast_nonneg _)]
    rfl
  have h2:S / 2 ^ i.toNat ≤ S:=Nat.div_le_self ..
  have h3:bits .and .u64 ((S / 2 ^ i.toNat:Nat):Int) 1 = ((S / 2 ^ i.toNat &&& 1:Nat):Int):=andN _ 1 (by omega) (by decide)
  rw [e,h3,Nat.and_one_is_mod,Nat.testBit_eq_decide_div_mod_eq]
  generalize S / 2 ^ i.toNat % 2 = r
  rw [Bool.eq_iff_iff]
  simp only [beq_iff_eq,decide_eq_true_eq]
  omega
theorem T_has (s i:Int):fnTree (P:=P) [] (lpOf []) Tryz.f126 (encL 0 [.val (.int .u64),.val tI] (s,i,())) =
  Tree.need ((0:Int) ≤ i) (.leaf (SV.bool (bits BinOp.and IntKind.u64 (shrI IntKind.u64 s i) (1:Int) == (1:Int)))):=by kernel_rfl
def c_has:PC P:=PC.of (α:=Int × Int × Unit) 126 [.val (.int .u64),.val tI] (fun x => x) (fun x => x) (fun _ => rfl)
  (fun x => some ((0 ≤ x.1 ∧ x.1 < 1024) ∧ 0 ≤ x.2.1 ∧ x.2.1 < 10))
  (fun x => .bool (x.1.toNat.testBit x.2.1.toNat)) (by kernel_rfl) (by
    rintro ⟨s,i,⟨⟩⟩ hp
    refine fn_of hm (by kernel_rfl) (by kernel_rfl) (T_has s i) trivial ?_
    try dsimp only at hp
    try dsimp only
    obtain ⟨⟨h0,h1⟩,h2,h3⟩ : (0 ≤ s ∧ s < 1024) ∧ 0 ≤ i ∧ i < 10:=hp
    obtain ⟨S,rfl⟩:=Int.eq_ofNat_of_zero_le h0
    rw [Int.toNat_natCast]
    exact ⟨h2,congrArg SV.bool (shr_bit S (by omega) h2 h3)⟩)
def lsA (s:Nat):Nat → Int → List Int
  | 0,_ => []
  | m + 1,i => if s.testBit i.toNat = true then i :: lsA s m (i + 1) else lsA s m (i + 1)
theorem lsA_eq (s:Nat):∀ (m i:Nat),lsA s m (i:Int) = ((List.range' i m).filter fun j => s.testBit j).map fun (j:Nat) => (j:Int)
  | 0,i => rfl
  | m + 1,i => by
    rw [lsA,List.range'_succ,List.filter_cons,Int.toNat_natCast,show ((i:Int) + 1) = ((i + 1:Nat):Int) by omega,lsA_eq s m (i + 1)]
    split
    · rfl
    · rfl
theorem lsA_all (s:Nat):lsA s 10 0 = lsI s:=by
  have:=lsA_eq s 10 0
  unfold lsI lsN
  rw [List.range_eq_range']
  exact this
def L_list0:Lay:={ slots:=[(0,.val (.int .u64)),(3,.row 3 tI),(5,.val tI)] }
def L_list0_0:Lay:={ slots:=[(3,.row 3 tI)] }
def X_list0:Exit → St → Option Lay
  | .exit 0,_ => some L_list0_0
  | _,_ => none
abbrev C_list0:Code:=loopC (bodyOf Tryz.f90) 0
theorem B_list0 (s:Int) (out:List Int) (i:Int):loopBodyA (P:=P) [c_has.gc] (lpOf []) [] 17 noU (inner C_list0) L_list0 X_list0 (α:=Int × List Int × Int × Unit) (fun x => x) (fun x => x) (s,out,i,()) =
  Tree.cond (decide (i < (10:Int))) (.need (((0:Int) ≤ s ∧ s < (1024:Int)) ∧ (0:Int) ≤ i ∧ i < (10:Int)) (.cond (Nat.testBit (Int.toNat s) (Int.toNat i)) (.need ((List.length out + List.length [i]) * (8:Nat) ≤ (140737488355328:Nat)) (.leaf (Sum.inl (s,out ++ [i],IntKind.i64.wrap (i + (1:Int)),())))) (.leaf (Sum.inl (s,out,IntKind.i64.wrap (i + (1:Int)),()))))) (.leaf (Sum.inr (Exit.exit (0:Nat),Lay.st L_list0_0 noU (out,())))):=by kernel_rfl
def inv_list0:Int × List Int × Int × Unit → Prop:=fun (s,out,i,()) => (0 ≤ s ∧ s < 1024) ∧ 0 ≤ i ∧ i ≤ 10 ∧ (out.length:Int) ≤ i
def O_list0:Int × List Int × Int × Unit → Tree (Exit × St):=fun (s,out,i,()) => (.leaf (.exit 0,L_list0_0.st noU ((out ++ lsA s.toNat (10 - i).toNat i),())))
def R_list0:LRun:=runOf 17 L_list0 (fun x => x) (inv_list0) (O_list0)
theorem K_list0:LoopOk P [] 17 none noU C_list0 (R_list0):=by
  refine loop_of hm (cx:=[c_has.gc]) [] (xl:=X_list0) (α:=Int × List Int × Int × Unit) (fun x => x) (fun (s,out,i,()) => (10 - i).toNat) (fun _ => rfl) (by kernel_rfl) (by kernel_rfl) ?_ (by kernel_rfl) trivial ?_
  · intro e S L' h
    unfold X_list0 at h
    split at h <;> first | (cases h; done) | (cases h; kernel_rfl) | (rcases bif_some h with h | h <;> cases h <;> kernel_rfl)
  · rintro ⟨s,out,i,⟨⟩⟩ hinv Q hQ
    refine hold_of_eq (B_list0 s out i) ?_
    obtain ⟨⟨h0,h1⟩,h2,h3,h4⟩:=hinv
    rw [W_id (n:=i + 1) (by omega) (by omega)]
    unfold O_list0 at hQ
    dsimp only at hQ
    refine ⟨fun c1 => ⟨⟨⟨h0,h1⟩,h2,of_decide_eq_true c1⟩,⟨fun c2 => ⟨?_,?_⟩,fun c2 => ?_⟩⟩,fun c1 => ?_⟩
    · simp only [List.length_cons,List.length_nil]; omega
    · have c1:=of_decide_eq_true c1
      rw [show (10 - i).toNat = (10 - (i + 1)).toNat + 1 by omega,lsA,if_pos c2,List.append_cons] at hQ
      exact ⟨⟨⟨⟨h0,h1⟩,by omega,by omega,by simp only [List.length_append,List.length_cons,List.length_nil]; omega⟩,by show (10 - (i + 1)).toNat < (10 - i).toNat; omega⟩,hQ⟩
    · have c1:=of_decide_eq_true c1
      rw [show (10 - i).toNat = (10 - (i + 1)).toNat + 1 by omega,lsA,if_neg (by rw [show s.toNat.testBit i.toNat = false from c2]; decide)] at hQ
      exact ⟨⟨⟨⟨h0,h1⟩,by omega,by omega,by omega⟩,by show (10 - (i + 1)).toNat < (10 - i).toNat; omega⟩,hQ⟩
    · have c1:=of_decide_eq_false c1
      rw [show (10 - i).toNat = 0 by omega,lsA,List.append_nil] at hQ
      exact hQ
theorem T_list (s:Int):fnTree (P:=P) [] (lpOf [(0,R_list0)]) Tryz.f90 (encL 0 [.val (.int .u64)] (s,())) =
  Tree.need (inv_list0 (s,[],(0:Int),())) (.leaf (SV.sl (Ty.int IntKind.i64) (lsA (Int.toNat s) (Int.toNat ((10:Int) - (0:Int))) (0:Int)))):=by kernel_rfl
def c_list:PC P:=PC.of (α:=Int × Unit) 90 [.val (.int .u64)] (fun x => x) (fun x => x) (fun _ => rfl)
  (fun x => some (0 ≤ x.1 ∧ x.1 < 1024))
  (fun x => .sl tI (lsI x.1.toNat)) (by kernel_rfl) (by
    rintro ⟨s,⟨⟩⟩ hp
    refine fn_le hm (by kernel_rfl) (by kernel_rfl) (T_list s) ⟨K_list0,trivial⟩ (by kernel_rfl) ?_
    try dsimp only at hp
    try dsimp only
    refine ⟨⟨hp,by decide,by decide,by decide⟩,?_⟩
    show _ = _
    rw [show (10 - 0:Int).toNat = 10 from rfl,lsA_all])
theorem T_cnanI (s0:Int):fnTree (P:=P) [] (lpOf []) Tryz.f156 (encL 0 [.val tI] (s0,())) =
  Tree.leaf (SV.bool (s0 != s0)):=by kernel_rfl
def c_cnanI:PC P:=PC.of (α:=Int × Unit) 156 [.val tI] (fun x => x) (fun x => x) (fun _ => rfl)
  (fun _ => none)
  (fun x => .bool false) (by kernel_rfl) (by
    rintro ⟨s0,⟨⟩⟩ hp
    refine fn_of hm (by kernel_rfl) (by kernel_rfl) (T_cnanI s0) trivial ?_
    try dsimp only at hp
    try dsimp only
    exact congrArg SV.bool (show (s0 != s0) = false by simp))
theorem T_ccmp (x y:Int):fnTree (P:=P) [c_cnanI.gc] (lpOf []) Tryz.f125 (encL 0 [.val tI,.val tI] (x,y,())) =
  Tree.cond false (.cond false (.leaf (SV.int IntKind.i64 (0:Int))) (.leaf (SV.int IntKind.i64 (-1:Int)))) (.cond false (.leaf (SV.int IntKind.i64 (1:Int))) (.cond (decide (x < y)) (.leaf (SV.int IntKind.i64 (-1:Int))) (.cond (decide (x > y)) (.leaf (SV.int IntKind.i64 (1:Int))) (.leaf (SV.int IntKind.i64 (0:Int)))))):=by kernel_rfl
def c_ccmp:PC P:=PC.of (α:=Int × Int × Unit) 125 [.val tI,.val tI] (fun x => x) (fun x => x) (fun _ => rfl)
  (fun _ => none)
  (fun x => .int .i64 (if x.1 < x.2.1 then -1 else if x.2.1 < x.1 then 1 else 0)) (by kernel_rfl) (by
    rintro ⟨x,y,⟨⟩⟩ hp
    refine fn_of hm (by kernel_rfl) (by kernel_rfl) (T_ccmp x y) trivial ?_
    try dsimp only at hp
    try dsimp only
    refine ⟨fun c1 => (by cases c1),fun _ => ⟨fun c1 => (by cases c1),fun _ => ⟨fun c4 => ?_,fun c4 => ⟨fun c5 => ?_,fun c5 => ?_⟩⟩⟩⟩
    · rw [if_pos (of_decide_eq_true c4)]; exact rfl
    · rw [if_neg (of_decide_eq_false c4),if_pos (of_decide_eq_true c5)]; exact rfl
    · have c5:=of_decide_eq_false c5
      rw [if_neg (of_decide_eq_false c4),if_neg (by omega)]; exact rfl)
def cmpE:List Int → List Int → Int
  | [],_ => 2
  | _ :: _,[] => 1
  | x :: a,y :: b => if (if x < y then (-1:Int) else if y < x then 1 else 0) ≠ 0 then (if x < y then -1 else if y < x then 1 else 0) else cmpE a b
theorem cmpE_L:∀ a b:List Int,cmpL a b = if cmpE a b = 2 then (if (a.length:Int) < b.length then -1 else 0) else cmpE a b
  | [],[] => rfl
  | [],_ :: _ => by
    rw [cmpE,if_pos rfl,if_pos (by simp only [List.length_cons,List.length_nil]; omega)]; rfl
  | _ :: _,[] => by rw [cmpE,if_neg (by decide)]; rfl
  | x :: a,y :: b => by
    have ih:=cmpE_L a b
    rw [cmpL,cmpE]
    by_cases h1:x < y
    · simp [h1]
    · by_cases h2:y < x
      · simp [h1,h2]
      · simp only [h1,h2,if_false,List.length_cons,ne_eq,not_true_eq_false]
        rw [ih]
        by_cases h3:cmpE a b = 2
        · simp only [h3,if_true]
          by_cases h4:(a.length:Int) < b.length
          · rw [if_pos h4,if_pos (by omega)]
          · rw [if_neg h4,if_neg (by omega)]
        · simp only [h3,if_false]
theorem cmpE_step1 {a b:List Int} {i:Int} (h0:0 ≤ i) (h:i < a.length) (hb:i ≥ b.length):cmpE (a.drop i.toNat) (b.drop i.toNat) = 1:=by
  rw [drop_step (0:Int) h0 h,drop_end (l:=b) (by omega),cmpE]
theorem cmpE_step {a b:List Int} {i:Int} (h0:0 ≤ i) (h:i < a.length) (hb:i < b.length):cmpE (a.drop i.toNat) (b.drop i.toNat) =
    if (if a.getD i.toNat 0 < b.getD i.toNat 0 then (-1:Int) else if b.getD i.toNat 0 < a.getD i.toNat 0 then 1 else 0) ≠ 0 then (if a.getD i.toNat 0 < b.getD i.toNat 0 then -1 else if b.getD i.toNat 0 < a.getD i.toNat 0 then 1 else 0) else cmpE (a.drop (i + 1).toNat) (b.drop (i + 1).toNat):=by
  rw [drop_step (0:Int) h0 h,drop_step (0:Int) h0 hb,cmpE]
def L_scmp0:Lay:={ slots:=[(0,.val tIs),(1,.val tIs),(9,.val tIs),(10,.val tI),(11,.val tI)] }
def L_scmp0_0:Lay:={ slots:=[(4,.val tI)] }
def L_scmp0_1:Lay:={ slots:=[(0,.val tIs),(1,.val tIs)] }
def X_scmp0:Exit → St → Option Lay
  | .ret,_ => some L_scmp0_0
  | .exit 0,_ => some L_scmp0_1
  | _,_ => none
abbrev C_scmp0:Code:=loopC (bodyOf Tryz.f89) 0
theorem B_scmp0 (a b l:List Int) (n i:Int):loopBodyA (P:=P) [c_ccmp.gc] (lpOf []) [] 36 noU (inner C_scmp0) L_scmp0 X_scmp0 (α:=List Int × List Int × List Int × Int × Int × Unit) (fun x => x) (fun x => x) (a,b,l,n,i,()) =
  Tree.cond (decide (i < n)) (.need ((0:Int) ≤ i ∧ i < (l.length:Int)) (.cond (decide (i ≥ (b.length:Int))) (.leaf (Sum.inr (Exit.ret,Lay.st L_scmp0_0 noU ((1:Int),())))) (.need ((0:Int) ≤ i ∧ i < (b.length:Int)) (.cond ((if List.getD l (Int.toNat i) (0:Int) < List.getD b (Int.toNat i) (0:Int) then (-1:Int) else if List.getD b (Int.toNat i) (0:Int) < List.getD l (Int.toNat i) (0:Int) then (1:Int) else (0:Int)) != (0:Int)) (.leaf (Sum.inr (Exit.ret,Lay.st L_scmp0_0 noU (if List.getD l (Int.toNat i) (0:Int) < List.getD b (Int.toNat i) (0:Int) then (-1:Int) else if List.getD b (Int.toNat i) (0:Int) < List.getD l (Int.toNat i) (0:Int) then (1:Int) else (0:Int),())))) (.leaf (Sum.inl (a,b,l,n,IntKind.i64.wrap (i + (1:Int)),()))))))) (.leaf (Sum.inr (Exit.exit (0:Nat),Lay.st L_scmp0_1 noU (a,b,())))):=by kernel_rfl
def inv_scmp0:List Int × List Int × List Int × Int × Int × Unit → Prop:=fun (a,b,l,n,i,()) => l = a ∧ n = a.length ∧ 0 ≤ i ∧ i ≤ n ∧ a.length ≤ 1000 ∧ b.length ≤ 1000
def O_scmp0:List Int × List Int × List Int × Int × Int × Unit → Tree (Exit × St):=fun (a,b,l,n,i,()) => .cond (decide (cmpE (a.drop i.toNat) (b.drop i.toNat) = 2)) (.leaf (.exit 0,L_scmp0_1.st noU (a,b,()))) (.leaf (.ret,L_scmp0_0.st noU ((cmpE (a.drop i.toNat) (b.drop i.toNat)),())))
def R_scmp0:LRun:=runOf 36 L_scmp0 (fun x => x) (inv_scmp0) (O_scmp0)
theorem K_scmp0:LoopOk P [] 36 none noU C_scmp0 (R_scmp0):=by
  refine loop_of hm (cx:=[c_ccmp.gc]) [] (xl:=X_scmp0) (α:=List Int × List Int × List Int × Int × Int × Unit) (fun x => x) (fun (a,b,l,n,i,()) => (n - i).toNat) (fun _ => rfl) (by kernel_rfl) (by kernel_rfl) ?_ (by kernel_rfl) trivial ?_
  · intro e S L' h
    unfold X_scmp0 at h
    split at h <;> first | (cases h; done) | (cases h; kernel_rfl) | (rcases bif_some h with h | h <;> cases h <;> kernel_rfl)
  · rintro ⟨a,b,l,n,i,⟨⟩⟩ hinv Q hQ
    refine hold_of_eq (B_scmp0 a b l n i) ?_
    obtain ⟨rfl,rfl,h0,h1,h2,h3⟩:=hinv
    rw [W_id (n:=i + 1) (by omega) (by omega)]
    unfold O_scmp0 at hQ
    dsimp only at hQ
    refine ⟨fun c1 => ⟨⟨h0,of_decide_eq_true c1⟩,⟨fun c2 => ?_,fun c2 => ⟨⟨h0,by have:=of_decide_eq_false c2; omega⟩,⟨fun c3 => ?_,fun c3 => ?_⟩⟩⟩⟩,fun c1 => ?_⟩
    · rw [cmpE_step1 h0 (of_decide_eq_true c1) (of_decide_eq_true c2)] at hQ
      exact hQ.2 rfl
    · have c2:=of_decide_eq_false c2
      rw [cmpE_step h0 (of_decide_eq_true c1) (by omega),if_pos (by simpa using c3)] at hQ
      refine hQ.2 ?_
      generalize List.getD l i.toNat 0 = x at *
      generalize List.getD b i.toNat 0 = y at *
      rw [decide_eq_false_iff_not]
      split
      · decide
      · split <;> decide
    · have c1:=of_decide_eq_true c1
      have c2:=of_decide_eq_false c2
      rw [cmpE_step h0 c1 (by omega),if_neg (by simpa using c3)] at hQ
      exact ⟨⟨⟨rfl,rfl,by omega,by omega,h2,h3⟩,by show ((l.length:Int) - (i + 1)).toNat < ((l.length:Int) - i).toNat; omega⟩,hQ⟩
    · rw [drop_end (of_decide_eq_false c1)] at hQ
      exact hQ.1 rfl
theorem T_scmp (a b:List Int):fnTree (P:=P) [] (lpOf [(0,R_scmp0)]) Tryz.f89 (encL 0 [.val tIs,.val tIs] (a,b,())) =
  Tree.need (inv_scmp0 (a,b,a,(a.length:Int),(0:Int),())) (.cond (decide (cmpE (List.drop (Int.toNat (0:Int)) a) (List.drop (Int.toNat (0:Int)) b) = (2:Int))) (.cond (decide ((a.length:Int) < (b.length:Int))) (.leaf (SV.int IntKind.i64 (-1:Int))) (.leaf (SV.int IntKind.i64 (0:Int)))) (.leaf (SV.int IntKind.i64 (cmpE (List.drop (Int.toNat (0:Int)) a) (List.drop (Int.toNat (0:Int)) b))))):=by kernel_rfl
def c_scmp:PC P:=PC.of (α:=List Int × List Int × Unit) 89 [.val tIs,.val tIs] (fun x => x) (fun x => x) (fun _ => rfl)
  (fun x => some (x.1.length ≤ 1000 ∧ x.2.1.length ≤ 1000))
  (fun x => .int .i64 (cmpL x.1 x.2.1)) (by kernel_rfl) (by
    rintro ⟨a,b,⟨⟩⟩ hp
    refine fn_of hm (by kernel_rfl) (by kernel_rfl) (T_scmp a b) ⟨K_scmp0,trivial⟩ ?_
    try dsimp only at hp
    try dsimp only
    obtain ⟨h1,h2⟩ : a.length ≤ 1000 ∧ b.length ≤ 1000:=hp
    have e:=cmpE_L a b
    refine ⟨⟨rfl,rfl,by decide,by omega,h1,h2⟩,⟨fun c1 => ⟨fun c2 => ?_,fun c2 => ?_⟩,fun c1 => ?_⟩⟩
    · have c1:cmpE a b = 2:=of_decide_eq_true c1
      rw [e,if_pos c1,if_pos (of_decide_eq_true c2)]; exact rfl
    · have c1:cmpE a b = 2:=of_decide_eq_true c1
      rw [e,if_pos c1,if_neg (of_decide_eq_false c2)]; exact rfl
    · have c1:¬ cmpE a b = 2:=of_decide_eq_false c1
      rw [e,if_neg c1]; exact rfl)
theorem T_cmp2 (x y:Int):fnTree (P:=P) [c_list.gc,c_scmp.gc] (lpOf []) Tryz.f88 (encL 0 [.val (.int .u64),.val (.int .u64)] (x,y,())) =
  Tree.need ((0:Int) ≤ x ∧ x < (1024:Int)) (.need ((0:Int) ≤ y ∧ y < (1024:Int)) (.need (List.length (lsI (Int.toNat x)) ≤ (1000:Nat) ∧ List.length (lsI (Int.toNat y)) ≤ (1000:Nat)) (.leaf (SV.int IntKind.i64 (cmpL (lsI (Int.toNat x)) (lsI (Int.toNat y))))))):=by kernel_rfl
def c_cmp2:PC P:=PC.of (α:=Int × Int × Unit) 88 [.val (.int .u64),.val (.int .u64)] (fun x => x) (fun x => x) (fun _ => rfl)
  (fun x => some ((0 ≤ x.1 ∧ x.1 < 1024) ∧ 0 ≤ x.2.1 ∧ x.2.1 < 1024))
  (fun x => .int .i64 (cmpL (lsI x.1.toNat) (lsI x.2.1.toNat))) (by kernel_rfl) (by
    rintro ⟨x,y,⟨⟩⟩ hp
    refine fn_of hm (by kernel_rfl) (by kernel_rfl) (T_cmp2 x y) trivial ?_
    try dsimp only at hp
    try dsimp only
    obtain ⟨h1,h2⟩ : (0 ≤ x ∧ x < 1024) ∧ 0 ≤ y ∧ y < 1024:=hp
    refine ⟨h1,h2,⟨?_,?_⟩,rfl⟩
    · rw [lsI_len]; have:=cnt_le10 x.toNat; omega
    · rw [lsI_len]; have:=cnt_le10 y.toNat; omega)
end
end Go.MB
