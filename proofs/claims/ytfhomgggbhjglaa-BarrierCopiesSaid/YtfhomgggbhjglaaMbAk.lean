/- Equal sites, as the program compares them. -/
import Derived.Test.YtfhomgggbhjglaaMbK
namespace Go.MB
open Go Go.Sx Go.Proofs
set_option linter.unusedVariables false
set_option linter.unusedSimpArgs false
noncomputable section
def L_eqPmL:Lay:={ slots:=[(0,.val (.sl (.pair tI (.pair tI (.pair tI .bool))))),(1,.val (.sl (.pair tI (.pair tI (.pair tI .bool))))),(12,.val tI),(13,.val tI)] }
def L_eqPmL_0:Lay:={ slots:=[(4,.val .bool)] }
def L_eqPmL_1:Lay:={ slots:=[] }
def X_eqPmL:Exit → St → Option Lay
  | .ret,_ => some L_eqPmL_0
  | .exit 0,_ => some L_eqPmL_1
  | _,_ => none
abbrev C_eqPmL:Code:=loopC (bodyOf Try.f67) 0
theorem B_eqPmL (a b:List (Int × (Int × (Int × Bool)))) (n i:Int):loopBodyA (P:=P) [] (lpOf []) [] 26 noU (inner C_eqPmL) L_eqPmL X_eqPmL (α:=List (Int × (Int × (Int × Bool))) × List (Int × (Int × (Int × Bool))) × Int × Int × Unit) (fun x => x) (fun x => x) (a,b,n,i,()) =
  Tree.cond (decide (i < n)) (.need ((0:Int) ≤ i ∧ i < (a.length:Int)) (.need ((0:Int) ≤ i ∧ i < (b.length:Int)) (.cond (!((List.getD a (Int.toNat i) ((0:Int),(0:Int),(0:Int),false)).fst == (List.getD b (Int.toNat i) ((0:Int),(0:Int),(0:Int),false)).fst && ((List.getD a (Int.toNat i) ((0:Int),(0:Int),(0:Int),false)).snd.fst == (List.getD b (Int.toNat i) ((0:Int),(0:Int),(0:Int),false)).snd.fst && ((List.getD a (Int.toNat i) ((0:Int),(0:Int),(0:Int),false)).snd.snd.fst == (List.getD b (Int.toNat i) ((0:Int),(0:Int),(0:Int),false)).snd.snd.fst && ((List.getD a (Int.toNat i) ((0:Int),(0:Int),(0:Int),false)).snd.snd.snd == (List.getD b (Int.toNat i) ((0:Int),(0:Int),(0:Int),false)).snd.snd.snd && true))))) (.leaf (Sum.inr (Exit.ret,Lay.st L_eqPmL_0 noU (false,())))) (.leaf (Sum.inl (a,b,n,IntKind.i64.wrap (i + (1:Int)),())))))) (.leaf (Sum.inr (Exit.exit (0:Nat),Lay.st L_eqPmL_1 noU ()))):=by kernel_rfl
def inv_eqPmL:List (Int × (Int × (Int × Bool))) × List (Int × (Int × (Int × Bool))) × Int × Int × Unit → Prop:=fun (a,b,n,i,()) => n = a.length ∧ 0 ≤ i ∧ i ≤ n ∧ a.length = b.length ∧ (a.length:Int) < 2 ^ 62
def O_eqPmL:List (Int × (Int × (Int × Bool))) × List (Int × (Int × (Int × Bool))) × Int × Int × Unit → Tree (Exit × St):=fun (a,b,n,i,()) => .cond (decide (a.drop i.toNat = b.drop i.toNat)) (.leaf (.exit 0,L_eqPmL_1.st noU ())) (.leaf (.ret,L_eqPmL_0.st noU ((false),())))
def R_eqPmL:LRun:=runOf 26 L_eqPmL (fun x => x) (inv_eqPmL) (O_eqPmL)
theorem K_eqPmL:LoopOk P [] 26 none noU C_eqPmL (R_eqPmL):=by
  refine loop_of hm (cx:=[]) [] (xl:=X_eqPmL) (α:=List (Int × (Int × (Int × Bool))) × List (Int × (Int × (Int × Bool))) × Int × Int × Unit) (fun x => x) (fun (a,b,n,i,()) => (n - i).toNat) (fun _ => rfl) (by kernel_rfl) (by kernel_rfl) ?_ (by kernel_rfl) trivial ?_
  · intro e S L' h
    unfold X_eqPmL at h
    split at h <;> first | (cases h; done) | (cases h; kernel_rfl) | (rcases bif_some h with h | h <;> cases h <;> kernel_rfl)
  · rintro ⟨a,b,n,i,⟨⟩⟩ hinv Q hQ
    refine hold_of_eq (B_eqPmL a b n i) ?_
    obtain ⟨rfl,h0,h1,h2,h3⟩:=hinv
    rw [W_id (n:=i + 1) (by omega) (by omega)]
    unfold O_eqPmL at hQ
    dsimp only at hQ
    refine ⟨fun d1 => ?_,fun d1 => ?_⟩
    · have d1:=of_decide_eq_true d1
      rw [eqd_step (0,0,0,false) h0 d1 h2] at hQ
      rw [pm_eq]
      refine ⟨⟨h0,d1⟩,⟨h0,by omega⟩,fun d2 => ?_,fun d2 => ?_⟩
      · have e:decide (a.getD i.toNat (0,0,0,false) = b.getD i.toNat (0,0,0,false)) = false:=by simpa using d2
        rw [e,Bool.false_and] at hQ
        exact hQ.2 rfl
      · have e:decide (a.getD i.toNat (0,0,0,false) = b.getD i.toNat (0,0,0,false)) = true:=by simpa using d2
        rw [e,Bool.true_and] at hQ
        exact ⟨⟨⟨rfl,by omega,by omega,h2,h3⟩,by show ((a.length:Int) - (i + 1)).toNat < ((a.length:Int) - i).toNat; omega⟩,hQ⟩
    · have d1:=of_decide_eq_false d1
      rw [eqd_end d1 h2] at hQ
      exact hQ.1 rfl
theorem T_eqPm (a b:List (Int × (Int × (Int × Bool)))):fnTree (P:=P) [] (lpOf [(0,R_eqPmL)]) Try.f67 (encL 0 [.val (.sl (.pair tI (.pair tI (.pair tI .bool)))),.val (.sl (.pair tI (.pair tI (.pair tI .bool))))] (a,b,())) =
  Tree.cond ((a.length:Int) != (b.length:Int)) (.leaf (SV.bool false)) (.need (inv_eqPmL (a,b,(a.length:Int),(0:Int),())) (.cond (decide (List.drop (Int.toNat (0:Int)) a = List.drop (Int.toNat (0:Int)) b)) (.leaf (SV.bool true)) (.leaf (SV.bool false)))):=by kernel_rfl
def c_eqPm:PC P:=PC.of (α:=List (Int × (Int × (Int × Bool))) × List (Int × (Int × (Int × Bool))) × Unit) 67 [.val (.sl (.pair tI (.pair tI (.pair tI .bool)))),.val (.sl (.pair tI (.pair tI (.pair tI .bool))))] (fun x => x) (fun x => x) (fun _ => rfl)
  (fun x => some ((x.1.length:Int) < 2 ^ 62 ∧ (x.2.1.length:Int) < 2 ^ 62))
  (fun x => .bool (decide (x.1 = x.2.1))) (by kernel_rfl) (by
    rintro ⟨a,b,⟨⟩⟩ hp
    refine fn_of hm (by kernel_rfl) (by kernel_rfl) (T_eqPm a b) ⟨K_eqPmL,trivial⟩ ?_
    try dsimp only at hp
    try dsimp only
    have hl:(a.length:Int) < 2 ^ 62 ∧ (b.length:Int) < 2 ^ 62:=hp
    refine ⟨fun c1 => ?_,fun c1 => ?_⟩
    · have c1:a.length ≠ b.length:=by
        have c1:(a.length:Int) ≠ b.length:=by simpa using c1
        omega
      rw [show decide (a = b) = false from decide_eq_false fun h => c1 (by rw [h])]
      exact rfl
    · have c1:(a.length:Int) = b.length:=by simpa using c1
      refine ⟨⟨rfl,by decide,by omega,by omega,hl.1⟩,fun c2 => ?_,fun c2 => ?_⟩
      · rw [show decide (a = b) = true from c2]; exact rfl
      · rw [show decide (a = b) = false from c2]; exact rfl)
def L_eqElL:Lay:={ slots:=[(0,.val (.sl (.pair tI tV))),(1,.val (.sl (.pair tI tV))),(12,.val tI),(13,.val tI)] }
def L_eqElL_0:Lay:={ slots:=[(4,.val .bool)] }
def L_eqElL_1:Lay:={ slots:=[] }
def X_eqElL:Exit → St → Option Lay
  | .ret,_ => some L_eqElL_0
  | .exit 0,_ => some L_eqElL_1
  | _,_ => none
abbrev C_eqElL:Code:=loopC (bodyOf Try.f68) 0
theorem B_eqElL (a b:List (Int × V)) (n i:Int):loopBodyA (P:=P) [] (lpOf []) [] 26 noU (inner C_eqElL) L_eqElL X_eqElL (α:=List (Int × V) × List (Int × V) × Int × Int × Unit) (fun x => x) (fun x => x) (a,b,n,i,()) =
  Tree.cond (decide (i < n)) (.need ((0:Int) ≤ i ∧ i < (a.length:Int)) (.need ((0:Int) ≤ i ∧ i < (b.length:Int)) (.cond (!((List.getD a (Int.toNat i) (0,0,0,0)).fst == (List.getD b (Int.toNat i) (0,0,0,0)).fst && ((List.getD a (Int.toNat i) (0,0,0,0)).snd.fst == (List.getD b (Int.toNat i) (0,0,0,0)).snd.fst && ((List.getD a (Int.toNat i) (0,0,0,0)).snd.snd.fst == (List.getD b (Int.toNat i) (0,0,0,0)).snd.snd.fst && ((List.getD a (Int.toNat i) (0,0,0,0)).snd.snd.snd == (List.getD b (Int.toNat i) (0,0,0,0)).snd.snd.snd && true))))) (.leaf (Sum.inr (Exit.ret,Lay.st L_eqElL_0 noU (false,())))) (.leaf (Sum.inl (a,b,n,IntKind.i64.wrap (i + (1:Int)),())))))) (.leaf (Sum.inr (Exit.exit (0:Nat),Lay.st L_eqElL_1 noU ()))):=by kernel_rfl
def inv_eqElL:List (Int × V) × List (Int × V) × Int × Int × Unit → Prop:=fun (a,b,n,i,()) => n = a.length ∧ 0 ≤ i ∧ i ≤ n ∧ a.length = b.length ∧ (a.length:Int) < 2 ^ 62
def O_eqElL:List (Int × V) × List (Int × V) × Int × Int × Unit → Tree (Exit × St):=fun (a,b,n,i,()) => .cond (decide (a.drop i.toNat = b.drop i.toNat)) (.leaf (.exit 0,L_eqElL_1.st noU ())) (.leaf (.ret,L_eqElL_0.st noU ((false),())))
def R_eqElL:LRun:=runOf 26 L_eqElL (fun x => x) (inv_eqElL) (O_eqElL)
theorem K_eqElL:LoopOk P [] 26 none noU C_eqElL (R_eqElL):=by
  refine loop_of hm (cx:=[]) [] (xl:=X_eqElL) (α:=List (Int × V) × List (Int × V) × Int × Int × Unit) (fun x => x) (fun (a,b,n,i,()) => (n - i).toNat) (fun _ => rfl) (by kernel_rfl) (by kernel_rfl) ?_ (by kernel_rfl) trivial ?_
  · intro e S L' h
    unfold X_eqElL at h
    split at h <;> first | (cases h; done) | (cases h; kernel_rfl) | (rcases bif_some h with h | h <;> cases h <;> kernel_rfl)
  · rintro ⟨a,b,n,i,⟨⟩⟩ hinv Q hQ
    refine hold_of_eq (B_eqElL a b n i) ?_
    obtain ⟨rfl,h0,h1,h2,h3⟩:=hinv
    rw [W_id (n:=i + 1) (by omega) (by omega)]
    unfold O_eqElL at hQ
    dsimp only at hQ
    refine ⟨fun d1 => ?_,fun d1 => ?_⟩
    · have d1:=of_decide_eq_true d1
      rw [eqd_step (0,0,0,0) h0 d1 h2] at hQ
      rw [e4_eq]
      refine ⟨⟨h0,d1⟩,⟨h0,by omega⟩,fun d2 => ?_,fun d2 => ?_⟩
      · have e:decide (a.getD i.toNat (0,0,0,0) = b.getD i.toNat (0,0,0,0)) = false:=by simpa using d2
        rw [e,Bool.false_and] at hQ
        exact hQ.2 rfl
      · have e:decide (a.getD i.toNat (0,0,0,0) = b.getD i.toNat (0,0,0,0)) = true:=by simpa using d2
        rw [e,Bool.true_and] at hQ
        exact ⟨⟨⟨rfl,by omega,by omega,h2,h3⟩,by show ((a.length:Int) - (i + 1)).toNat < ((a.length:Int) - i).toNat; omega⟩,hQ⟩
    · have d1:=of_decide_eq_false d1
      rw [eqd_end d1 h2] at hQ
      exact hQ.1 rfl
theorem T_eqEl (a b:List (Int × V)):fnTree (P:=P) [] (lpOf [(0,R_eqElL)]) Try.f68 (encL 0 [.val (.sl (.pair tI tV)),.val (.sl (.pair tI tV))] (a,b,())) =
  Tree.cond ((a.length:Int) != (b.length:Int)) (.leaf (SV.bool false)) (.need (inv_eqElL (a,b,(a.length:Int),(0:Int),())) (.cond (decide (List.drop (Int.toNat (0:Int)) a = List.drop (Int.toNat (0:Int)) b)) (.leaf (SV.bool true)) (.leaf (SV.bool false)))):=by kernel_rfl
def c_eqEl:PC P:=PC.of (α:=List (Int × V) × List (Int × V) × Unit) 68 [.val (.sl (.pair tI tV)),.val (.sl (.pair tI tV))] (fun x => x) (fun x => x) (fun _ => rfl)
  (fun x => some ((x.1.length:Int) < 2 ^ 62 ∧ (x.2.1.length:Int) < 2 ^ 62))
  (fun x => .bool (decide (x.1 = x.2.1))) (by kernel_rfl) (by
    rintro ⟨a,b,⟨⟩⟩ hp
    refine fn_of hm (by kernel_rfl) (by kernel_rfl) (T_eqEl a b) ⟨K_eqElL,trivial⟩ ?_
    try dsimp only at hp
    try dsimp only
    have hl:(a.length:Int) < 2 ^ 62 ∧ (b.length:Int) < 2 ^ 62:=hp
    refine ⟨fun c1 => ?_,fun c1 => ?_⟩
    · have c1:a.length ≠ b.length:=by
        have c1:(a.length:Int) ≠ b.length:=by simpa using c1
        omega
      rw [show decide (a = b) = false from decide_eq_false fun h => c1 (by rw [h])]
      exact rfl
    · have c1:(a.length:Int) = b.length:=by simpa using c1
      refine ⟨⟨rfl,by decide,by omega,by omega,hl.1⟩,fun c2 => ?_,fun c2 => ?_⟩
      · rw [show decide (a = b) = true from c2]; exact rfl
      · rw [show decide (a = b) = false from c2]; exact rfl)
def L_eqIsL:Lay:={ slots:=[(0,.val tIs),(1,.val tIs),(12,.val tI),(13,.val tI)] }
def L_eqIsL_0:Lay:={ slots:=[(4,.val .bool)] }
def L_eqIsL_1:Lay:={ slots:=[] }
def X_eqIsL:Exit → St → Option Lay
  | .ret,_ => some L_eqIsL_0
  | .exit 0,_ => some L_eqIsL_1
  | _,_ => none
abbrev C_eqIsL:Code:=loopC (bodyOf Try.f70) 0
theorem B_eqIsL (a b:List Int) (n i:Int):loopBodyA (P:=P) [] (lpOf []) [] 26 noU (inner C_eqIsL) L_eqIsL X_eqIsL (α:=List Int × List Int × Int × Int × Unit) (fun x => x) (fun x => x) (a,b,n,i,()) =
  Tree.cond (decide (i < n)) (.need ((0:Int) ≤ i ∧ i < (a.length:Int)) (.need ((0:Int) ≤ i ∧ i < (b.length:Int)) (.cond (List.getD a (Int.toNat i) (0:Int) != List.getD b (Int.toNat i) (0:Int)) (.leaf (Sum.inr (Exit.ret,Lay.st L_eqIsL_0 noU (false,())))) (.leaf (Sum.inl (a,b,n,IntKind.i64.wrap (i + (1:Int)),())))))) (.leaf (Sum.inr (Exit.exit (0:Nat),Lay.st L_eqIsL_1 noU ()))):=by kernel_rfl
def inv_eqIsL:List Int × List Int × Int × Int × Unit → Prop:=fun (a,b,n,i,()) => n = a.length ∧ 0 ≤ i ∧ i ≤ n ∧ a.length = b.length ∧ (a.length:Int) < 2 ^ 62
def O_eqIsL:List Int × List Int × Int × Int × Unit → Tree (Exit × St):=fun (a,b,n,i,()) => .cond (decide (a.drop i.toNat = b.drop i.toNat)) (.leaf (.exit 0,L_eqIsL_1.st noU ())) (.leaf (.ret,L_eqIsL_0.st noU ((false),())))
def R_eqIsL:LRun:=runOf 26 L_eqIsL (fun x => x) (inv_eqIsL) (O_eqIsL)
theorem K_eqIsL:LoopOk P [] 26 none noU C_eqIsL (R_eqIsL):=by
  refine loop_of hm (cx:=[]) [] (xl:=X_eqIsL) (α:=List Int × List Int × Int × Int × Unit) (fun x => x) (fun (a,b,n,i,()) => (n - i).toNat) (fun _ => rfl) (by kernel_rfl) (by kernel_rfl) ?_ (by kernel_rfl) trivial ?_
  · intro e S L' h
    unfold X_eqIsL at h
    split at h <;> first | (cases h; done) | (cases h; kernel_rfl) | (rcases bif_some h with h | h <;> cases h <;> kernel_rfl)
  · rintro ⟨a,b,n,i,⟨⟩⟩ hinv Q hQ
    refine hold_of_eq (B_eqIsL a b n i) ?_
    obtain ⟨rfl,h0,h1,h2,h3⟩:=hinv
    rw [W_id (n:=i + 1) (by omega) (by omega)]
    unfold O_eqIsL at hQ
    dsimp only at hQ
    refine ⟨fun d1 => ?_,fun d1 => ?_⟩
    · have d1:=of_decide_eq_true d1
      rw [eqd_step 0 h0 d1 h2] at hQ
      refine ⟨⟨h0,d1⟩,⟨h0,by omega⟩,fun d2 => ?_,fun d2 => ?_⟩
      · have e:decide (a.getD i.toNat 0 = b.getD i.toNat 0) = false:=by simpa using d2
        rw [e,Bool.false_and] at hQ
        exact hQ.2 rfl
      · have e:decide (a.getD i.toNat 0 = b.getD i.toNat 0) = true:=by simpa using d2
        rw [e,Bool.true_and] at hQ
        exact ⟨⟨⟨rfl,by omega,by omega,h2,h3⟩,by show ((a.length:Int) - (i + 1)).toNat < ((a.length:Int) - i).toNat; omega⟩,hQ⟩
    · have d1:=of_decide_eq_false d1
      rw [eqd_end d1 h2] at hQ
      exact hQ.1 rfl
theorem T_eqIs (a b:List Int):fnTree (P:=P) [] (lpOf [(0,R_eqIsL)]) Try.f70 (encL 0 [.val tIs,.val tIs] (a,b,())) =
  Tree.cond ((a.length:Int) != (b.length:Int)) (.leaf (SV.bool false)) (.need (inv_eqIsL (a,b,(a.length:Int),(0:Int),())) (.cond (decide (List.drop (Int.toNat (0:Int)) a = List.drop (Int.toNat (0:Int)) b)) (.leaf (SV.bool true)) (.leaf (SV.bool false)))):=by kernel_rfl
def c_eqIs:PC P:=PC.of (α:=List Int × List Int × Unit) 70 [.val tIs,.val tIs] (fun x => x) (fun x => x) (fun _ => rfl)
  (fun x => some ((x.1.length:Int) < 2 ^ 62 ∧ (x.2.1.length:Int) < 2 ^ 62))
  (fun x => .bool (decide (x.1 = x.2.1))) (by kernel_rfl) (by
    rintro ⟨a,b,⟨⟩⟩ hp
    refine fn_of hm (by kernel_rfl) (by kernel_rfl) (T_eqIs a b) ⟨K_eqIsL,trivial⟩ ?_
    try dsimp only at hp
    try dsimp only
    have hl:(a.length:Int) < 2 ^ 62 ∧ (b.length:Int) < 2 ^ 62:=hp
    refine ⟨fun c1 => ?_,fun c1 => ?_⟩
    · have c1:a.length ≠ b.length:=by
        have c1:(a.length:Int) ≠ b.length:=by simpa using c1
        omega
      rw [show decide (a = b) = false from decide_eq_false fun h => c1 (by rw [h])]
      exact rfl
    · have c1:(a.length:Int) = b.length:=by simpa using c1
      refine ⟨⟨rfl,by decide,by omega,by omega,hl.1⟩,fun c2 => ?_,fun c2 => ?_⟩
      · rw [show decide (a = b) = true from c2]; exact rfl
      · rw [show decide (a = b) = false from c2]; exact rfl)
def L_eqFs0:Lay:={ slots:=[(0,.val (.sl tIs)),(1,.val (.sl tIs)),(2,.fn 70)] }
def L_eqFsL:Lay:={ slots:=[(1,.val (.sl tIs)),(2,.fn 70),(15,.val (.sl tIs)),(16,.val tI),(17,.val tI)] }
def L_eqFsL_0:Lay:={ slots:=[(6,.val .bool)] }
def L_eqFsL_1:Lay:={ slots:=[] }
def X_eqFsL:Exit → St → Option Lay
  | .ret,_ => some L_eqFsL_0
  | .exit 0,_ => some L_eqFsL_1
  | _,_ => none
abbrev C_eqFsL:Code:=loopC (bodyOf Try.f69) 0
theorem B_eqFsL (a b:List (List Int)) (n i:Int):loopBodyA (P:=P) [c_eqIs.gc] (lpOf []) [] 32 (usd noU (L_eqFs0.ids ++ rowIds rowBase L_eqFs0.shs)) (inner C_eqFsL) L_eqFsL X_eqFsL (α:=List (List Int) × Unit × List (List Int) × Int × Int × Unit) (fun x => x) (fun x => x) (b,(),a,n,i,()) =
  Tree.cond (decide (i < n)) (.need ((0:Int) ≤ i ∧ i < (a.length:Int)) (.need ((0:Int) ≤ i ∧ i < (b.length:Int)) (.need ((↑(List.length (List.getD a (Int.toNat i) [])):Int) < (2:Int) ^ (62:Nat) ∧ (↑(List.length (List.getD b (Int.toNat i) [])):Int) < (2:Int) ^ (62:Nat)) (.cond (!decide (List.getD a (Int.toNat i) [] = List.getD b (Int.toNat i) [])) (.leaf (Sum.inr (Exit.ret,Lay.st L_eqFsL_0 (usd noU (Lay.ids L_eqFs0 ++ rowIds rowBase (Lay.shs L_eqFs0))) (false,())))) (.leaf (Sum.inl (b,(),a,n,IntKind.i64.wrap (i + (1:Int)),()))))))) (.leaf (Sum.inr (Exit.exit (0:Nat),Lay.st L_eqFsL_1 (usd noU (Lay.ids L_eqFs0 ++ rowIds rowBase (Lay.shs L_eqFs0))) ()))):=by kernel_rfl
def inv_eqFsL:List (List Int) × Unit × List (List Int) × Int × Int × Unit → Prop:=fun (b,_,a,n,i,_) => n = a.length ∧ 0 ≤ i ∧ i ≤ n ∧ a.length = b.length ∧ (a.length:Int) < 2 ^ 62 ∧ (∀ q ∈ a,(q.length:Int) < 2 ^ 62) ∧ ∀ q ∈ b,(q.length:Int) < 2 ^ 62
def O_eqFsL:List (List Int) × Unit × List (List Int) × Int × Int × Unit → Tree (Exit × St):=fun (b,_,a,n,i,_) => .cond (decide (a.drop i.toNat = b.drop i.toNat)) (.leaf (.exit 0,L_eqFsL_1.st (usd noU (L_eqFs0.ids ++ rowIds rowBase L_eqFs0.shs)) ())) (.leaf (.ret,L_eqFsL_0.st (usd noU (L_eqFs0.ids ++ rowIds rowBase L_eqFs0.shs)) (false,())))
def R_eqFsL:LRun:=runOf 32 L_eqFsL (fun x => x) (inv_eqFsL) (O_eqFsL)
theorem K_eqFsL:LoopOk P [] 32 none (usd noU (L_eqFs0.ids ++ rowIds rowBase L_eqFs0.shs)) C_eqFsL (R_eqFsL):=by
  refine loop_of hm (cx:=[c_eqIs.gc]) [] (xl:=X_eqFsL) (α:=List (List Int) × Unit × List (List Int) × Int × Int × Unit) (fun x => x) (fun (b,_,a,n,i,_) => (n - i).toNat) (fun _ => rfl) (by kernel_rfl) (by kernel_rfl) ?_ (by kernel_rfl) trivial ?_
  · intro e S L' h
    unfold X_eqFsL at h
    split at h <;> first | (cases h; done) | (cases h; kernel_rfl) | (rcases bif_some h with h | h <;> cases h <;> kernel_rfl)
  · rintro ⟨b,⟨⟩,a,n,i,⟨⟩⟩ hinv Q hQ
    refine hold_of_eq (B_eqFsL a b n i) ?_
    obtain ⟨rfl,h0,h1,h2,h3,h4,h5⟩:=hinv
    rw [W_id (n:=i + 1) (by omega) (by omega)]
    unfold O_eqFsL at hQ
    dsimp only at hQ
    refine ⟨fun d1 => ?_,fun d1 => ?_⟩
    · have d1:=of_decide_eq_true d1
      rw [eqd_step [] h0 d1 h2] at hQ
      have k4:=h4 _ (getD_mem (d:=([] : List Int)) (show i.toNat < a.length by omega))
      have k5:=h5 _ (getD_mem (d:=([] : List Int)) (show i.toNat < b.length by omega))
      refine ⟨⟨h0,d1⟩,⟨h0,by omega⟩,⟨k4,k5⟩,fun d2 => ?_,fun d2 => ?_⟩
      · have e:decide (a.getD i.toNat [] = b.getD i.toNat []) = false:=by simpa using d2
        rw [e,Bool.false_and] at hQ
        exact hQ.2 rfl
      · have e:decide (a.getD i.toNat [] = b.getD i.toNat []) = true:=by simpa using d2
        rw [e,Bool.true_and] at hQ
        exact ⟨⟨⟨rfl,by omega,by omega,h2,h3,h4,h5⟩,by show ((a.length:Int) - (i + 1)).toNat < ((a.length:Int) - i).toNat; omega⟩,hQ⟩
    · have d1:=of_decide_eq_false d1
      rw [eqd_end d1 h2] at hQ
      exact hQ.1 rfl
def L_eqFs:Lay:={ slots:=[(0,.val (.sl tIs)),(1,.val (.sl tIs)),(2,.fn 70)] }
theorem T_eqFs (a b:List (List Int)):mTree (P:=P) [] (lpOf [(0,R_eqFsL)]) Try.f69 L_eqFs true (a,b,(),()) =
  Tree.cond ((a.length:Int) != (b.length:Int)) (.leaf { res:=SV.bool false,boxes:=[] }) (.need (inv_eqFsL (b,(),a,(a.length:Int),(0:Int),())) (.cond (decide (List.drop (Int.toNat (0:Int)) a = List.drop (Int.toNat (0:Int)) b)) (.leaf { res:=SV.bool true,boxes:=[] }) (.leaf { res:=SV.bool false,boxes:=[] }))):=by kernel_rfl
def c_eqFs:MC P:=MC.of (α:=List (List Int) × List (List Int) × Unit × Unit) 69 L_eqFs (fun x => x) (fun x => x) (fun _ => rfl)
  (fun (a,b,_,_) => some ((a.length:Int) < 2 ^ 62 ∧ (b.length:Int) < 2 ^ 62 ∧ (∀ q ∈ a,(q.length:Int) < 2 ^ 62) ∧ ∀ q ∈ b,(q.length:Int) < 2 ^ 62))
  (fun (a,b,_,_) => ⟨.bool (decide (a = b)),[],[]⟩) (by kernel_rfl) (by kernel_rfl) (by kernel_rfl) (by
    rintro ⟨a,b,⟨⟩,⟨⟩⟩ hp
    refine m_of hm (own:=true) (by kernel_rfl) (by kernel_rfl) (by kernel_rfl) (T_eqFs a b) ⟨K_eqFsL,trivial⟩ ?_
    have hl:(a.length:Int) < 2 ^ 62 ∧ (b.length:Int) < 2 ^ 62 ∧ (∀ q ∈ a,(q.length:Int) < 2 ^ 62) ∧ ∀ q ∈ b,(q.length:Int) < 2 ^ 62:=hp
    obtain ⟨l1,l2,l3,l4⟩:=hl
    refine ⟨fun c1 => ?_,fun c1 => ?_⟩
    · have c1:a.length ≠ b.length:=by
        have c1:(a.length:Int) ≠ b.length:=by simpa using c1
        omega
      exact congrArg (fun k:Bool => (⟨.bool k,[],[]⟩ : MOut)) (decide_eq_false fun h => c1 (by rw [h])).symm
    · have c1:(a.length:Int) = b.length:=by simpa using c1
      refine ⟨⟨rfl,by decide,by omega,by omega,l1,l3,l4⟩,fun c2 => ?_,fun c2 => ?_⟩
      · exact congrArg (fun k:Bool => (⟨.bool k,[],[]⟩ : MOut)) (show true = decide (a = b) from c2.symm)
      · exact congrArg (fun k:Bool => (⟨.bool k,[],[]⟩ : MOut)) (show false = decide (a = b) from c2.symm))
theorem T_pSame (a_0 a_1 a_2 a_3 a_4:Int) (a_5:List (Int × V)) (a_6:List (List Int)) (a_7:Int) (a_8:List (Int × (Int × (Int × Bool)))) (a_9 b_0 b_1 b_2 b_3 b_4:Int) (b_5:List (Int × V)) (b_6:List (List Int)) (b_7:Int) (b_8:List (Int × (Int × (Int × Bool)))) (b_9:Int):fnTree (P:=P) [c_eqPm.gc,c_eqEl.gc,c_eqFs.gc] (lpOf []) Try.f40 (encL 0 [.agg (.pair tI (.pair tI (.pair tI (.pair tI (.pair tI (.pair (.pair (.sl (.pair tI tV)) (.pair (.sl tIs) tI)) (.pair (.sl (.pair tI (.pair tI (.pair tI .bool)))) tI))))))),.agg (.pair tI (.pair tI (.pair tI (.pair tI (.pair tI (.pair (.pair (.sl (.pair tI tV)) (.pair (.sl tIs) tI)) (.pair (.sl (.pair tI (.pair tI (.pair tI .bool)))) tI)))))))] ((a_0,(a_1,(a_2,(a_3,(a_4,((a_5,(a_6,a_7)),(a_8,a_9))))))),(b_0,(b_1,(b_2,(b_3,(b_4,((b_5,(b_6,b_7)),(b_8,b_9))))))),())) =
  Tree.cond (a_0 != b_0) (.leaf (SV.bool false)) (.cond (a_1 != b_1) (.leaf (SV.bool false)) (.cond (a_2 != b_2) (.leaf (SV.bool false)) (.cond (a_3 != b_3) (.leaf (SV.bool false)) (.cond (a_4 != b_4) (.leaf (SV.bool false)) (.cond (a_9 != b_9) (.leaf (SV.bool false)) (.need ((a_8.length:Int) < (2:Int) ^ (62:Nat) ∧ (b_8.length:Int) < (2:Int) ^ (62:Nat)) (.cond (!decide (a_8 = b_8)) (.leaf (SV.bool false)) (.cond (a_7 == b_7) (.need ((a_5.length:Int) < (2:Int) ^ (62:Nat) ∧ (b_5.length:Int) < (2:Int) ^ (62:Nat)) (.cond (decide (a_5 = b_5)) (.need ((a_6.length:Int) < (2:Int) ^ (62:Nat) ∧ (b_6.length:Int) < (2:Int) ^ (62:Nat) ∧ (∀ (q:List Int),q ∈ a_6 → (q.length:Int) < (2:Int) ^ (62:Nat)) ∧ ∀ (q:List Int),q ∈ b_6 → (q.length:Int) < (2:Int) ^ (62:Nat)) (.leaf (SV.bool (decide (a_6 = b_6))))) (.leaf (SV.bool false)))) (.leaf (SV.bool false)))))))))):=by kernel_rfl
def c_pSame:PC P:=PC.of (α:=(Int × (Int × (Int × (Int × (Int × ((List (Int × V) × (List (List Int) × Int)) × (List (Int × (Int × (Int × Bool))) × Int))))))) × (Int × (Int × (Int × (Int × (Int × ((List (Int × V) × (List (List Int) × Int)) × (List (Int × (Int × (Int × Bool))) × Int))))))) × Unit) 40 [.agg (.pair tI (.pair tI (.pair tI (.pair tI (.pair tI (.pair (.pair (.sl (.pair tI tV)) (.pair (.sl tIs) tI)) (.pair (.sl (.pair tI (.pair tI (.pair tI .bool)))) tI))))))),.agg (.pair tI (.pair tI (.pair tI (.pair tI (.pair tI (.pair (.pair (.sl (.pair tI tV)) (.pair (.sl tIs) tI)) (.pair (.sl (.pair tI (.pair tI (.pair tI .bool)))) tI)))))))] (fun x => x) (fun x => x) (fun _ => rfl)
  (fun x => some (sOk (x.1.1,x.1.2.1,x.1.2.2.1,x.1.2.2.2.1,x.1.2.2.2.2.1,(x.1.2.2.2.2.2.1.1,x.1.2.2.2.2.2.1.2.1,x.1.2.2.2.2.2.1.2.2),x.1.2.2.2.2.2.2.1,x.1.2.2.2.2.2.2.2) ∧ sOk (x.2.1.1,x.2.1.2.1,x.2.1.2.2.1,x.2.1.2.2.2.1,x.2.1.2.2.2.2.1,(x.2.1.2.2.2.2.2.1.1,x.2.1.2.2.2.2.2.1.2.1,x.2.1.2.2.2.2.2.1.2.2),x.2.1.2.2.2.2.2.2.1,x.2.1.2.2.2.2.2.2.2)))
  (fun x => .bool (sameB x.1 x.2.1)) (by kernel_rfl) (by
    rintro ⟨⟨a_0,⟨a_1,⟨a_2,⟨a_3,⟨a_4,⟨⟨a_5,⟨a_6,a_7⟩⟩,⟨a_8,a_9⟩⟩⟩⟩⟩⟩⟩,⟨b_0,⟨b_1,⟨b_2,⟨b_3,⟨b_4,⟨⟨b_5,⟨b_6,b_7⟩⟩,⟨b_8,b_9⟩⟩⟩⟩⟩⟩⟩,⟨⟩⟩ hp
    refine fn_of hm (by kernel_rfl) (by kernel_rfl) (T_pSame a_0 a_1 a_2 a_3 a_4 a_5 a_6 a_7 a_8 a_9 b_0 b_1 b_2 b_3 b_4 b_5 b_6 b_7 b_8 b_9) trivial ?_
    try dsimp only at hp
    try dsimp only
    obtain ⟨⟨⟨p1,p2,p3⟩,p4⟩,⟨q1,q2,q3⟩,q4⟩ : sOk (a_0,a_1,a_2,a_3,a_4,(a_5,a_6,a_7),a_8,a_9) ∧ sOk (b_0,b_1,b_2,b_3,b_4,(b_5,b_6,b_7),b_8,b_9):=hp
    dsimp only at p1 p2 p3 p4 q1 q2 q3 q4
    have fin:∀ n:Bool,sameB (a_0,a_1,a_2,a_3,a_4,(a_5,a_6,a_7),a_8,a_9) (b_0,b_1,b_2,b_3,b_4,(b_5,b_6,b_7),b_8,b_9) = n → SV.bool n = SV.bool (sameB (a_0,a_1,a_2,a_3,a_4,(a_5,a_6,a_7),a_8,a_9) (b_0,b_1,b_2,b_3,b_4,(b_5,b_6,b_7),b_8,b_9)):=fun n h => by rw [h]
    have iff:sameB (a_0,a_1,a_2,a_3,a_4,(a_5,a_6,a_7),a_8,a_9) (b_0,b_1,b_2,b_3,b_4,(b_5,b_6,b_7),b_8,b_9) = true ↔ (a_0 = b_0 ∧ a_1 = b_1 ∧ a_2 = b_2 ∧ a_3 = b_3 ∧ a_4 = b_4 ∧ (a_5 = b_5 ∧ a_6 = b_6 ∧ a_7 = b_7) ∧ a_8 = b_8 ∧ a_9 = b_9):=by
      unfold sameB sameH; simp
    refine ⟨fun c => fin _ (Bool.eq_false_iff.2 fun h => by obtain ⟨rfl,rfl,rfl,rfl,rfl,⟨rfl,rfl,rfl⟩,rfl,rfl⟩:=iff.1 h; simp at c),fun c1 => ⟨fun c => fin _ (Bool.eq_false_iff.2 fun h => by obtain ⟨rfl,rfl,rfl,rfl,rfl,⟨rfl,rfl,rfl⟩,rfl,rfl⟩:=iff.1 h; simp at c),fun c2 => ⟨fun c => fin _ (Bool.eq_false_iff.2 fun h => by obtain ⟨rfl,rfl,rfl,rfl,rfl,⟨rfl,rfl,rfl⟩,rfl,rfl⟩:=iff.1 h; simp at c),fun c3 => ⟨fun c => fin _ (Bool.eq_false_iff.2 fun h => by obtain ⟨rfl,rfl,rfl,rfl,rfl,⟨rfl,rfl,rfl⟩,rfl,rfl⟩:=iff.1 h; simp at c),fun c4 => ⟨fun c => fin _ (Bool.eq_false_iff.2 fun h => by obtain ⟨rfl,rfl,rfl,rfl,rfl,⟨rfl,rfl,rfl⟩,rfl,rfl⟩:=iff.1 h; simp at c),fun c5 => ⟨fun c => fin _ (Bool.eq_false_iff.2 fun h => by obtain ⟨rfl,rfl,rfl,rfl,rfl,⟨rfl,rfl,rfl⟩,rfl,rfl⟩:=iff.1 h; simp at c),fun c6 => ⟨⟨by omega,by omega⟩,⟨fun c => fin _ (Bool.eq_false_iff.2 fun h => by obtain ⟨rfl,rfl,rfl,rfl,rfl,⟨rfl,rfl,rfl⟩,rfl,rfl⟩:=iff.1 h; simp at c),fun c7 => ⟨fun c8 => ⟨⟨by omega,by omega⟩,⟨fun c9 => ⟨⟨by omega,by omega,fun q hq => by have:=p3 q hq; omega,fun q hq => by have:=q3 q hq; omega⟩,fin _ ?_⟩,fun c => fin _ (Bool.eq_false_iff.2 fun h => by obtain ⟨rfl,rfl,rfl,rfl,rfl,⟨rfl,rfl,rfl⟩,rfl,rfl⟩:=iff.1 h; simp at c)⟩⟩,fun c => fin _ (Bool.eq_false_iff.2 fun h => by obtain ⟨rfl,rfl,rfl,rfl,rfl,⟨rfl,rfl,rfl⟩,rfl,rfl⟩:=iff.1 h; simp at c)⟩⟩⟩⟩⟩⟩⟩⟩⟩
    simp only [bne_eq_false_iff_eq] at c1 c2 c3 c4 c5 c6
    have c7:a_8 = b_8:=by simpa using c7
    have c8:a_7 = b_7:=by simpa using c8
    have c9:a_5 = b_5:=by simpa using c9
    rw [Bool.eq_iff_iff,iff]
    simp [c1,c2,c3,c4,c5,c6,c7,c8,c9])
theorem T_BigSite (s_0 s_1 s_2 s_3 s_4:Int) (s_5:List (Int × V)) (s_6:List (List Int)) (s_7:Int) (s_8:List (Int × (Int × (Int × Bool)))) (s_9:Int):fnTree (P:=P) [c_BigHouse.gc] (lpOf []) Try.f38 (encL 0 [.agg (.pair tI (.pair tI (.pair tI (.pair tI (.pair tI (.pair (.pair (.sl (.pair tI tV)) (.pair (.sl tIs) tI)) (.pair (.sl (.pair tI (.pair tI (.pair tI .bool)))) tI)))))))] ((s_0,(s_1,(s_2,(s_3,(s_4,((s_5,(s_6,s_7)),(s_8,s_9))))))),())) =
  Tree.cond (bigH (s_5,s_6,s_7)) (.leaf (SV.bool true)) (.leaf (SV.bool (decide ((s_8.length:Int) > (20:Int))))):=by kernel_rfl
def c_BigSite:PC P:=PC.of (α:=(Int × (Int × (Int × (Int × (Int × ((List (Int × V) × (List (List Int) × Int)) × (List (Int × (Int × (Int × Bool))) × Int))))))) × Unit) 38 [.agg (.pair tI (.pair tI (.pair tI (.pair tI (.pair tI (.pair (.pair (.sl (.pair tI tV)) (.pair (.sl tIs) tI)) (.pair (.sl (.pair tI (.pair tI (.pair tI .bool)))) tI)))))))] (fun x => x) (fun x => x) (fun _ => rfl)
  (fun _ => none)
  (fun x => .bool (bigH x.1.2.2.2.2.2.1 || decide ((x.1.2.2.2.2.2.2.1.length:Int) > 20))) (by kernel_rfl) (by
    rintro ⟨⟨s_0,⟨s_1,⟨s_2,⟨s_3,⟨s_4,⟨⟨s_5,⟨s_6,s_7⟩⟩,⟨s_8,s_9⟩⟩⟩⟩⟩⟩⟩,⟨⟩⟩ hp
    refine fn_of hm (by kernel_rfl) (by kernel_rfl) (T_BigSite s_0 s_1 s_2 s_3 s_4 s_5 s_6 s_7 s_8 s_9) trivial ?_
    try dsimp only at hp
    try dsimp only
    refine ⟨fun c => ?_,fun c => ?_⟩
    · exact congrArg SV.bool (by rw [c,Bool.true_or])
    · exact congrArg SV.bool (by rw [c,Bool.false_or]))
end
end Go.MB
