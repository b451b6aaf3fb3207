/- Rigs: checks, ways, bans, what moves are allowed. -/
import Derived.Test.YtdoobpeacbcohaaFw4
import Derived.Test.YtdoobpeacbcohaaProg
namespace Go.MR
open Go Go.Sx Go.Proofs
set_option linter.unusedVariables false
set_option linter.unusedSimpArgs false
noncomputable section
abbrev P:Program:=Try.prog
theorem hm:P.follows .mixedOrders = true:=by kernel_rfl
theorem W_id {n:Int} (h1 : -9223372036854775808 ≤ n) (h2:n ≤ 9223372036854775807):IntKind.i64.wrap n = n:=by
  have e:IntKind.i64.wrap n = (if n % 18446744073709551616 ≥ 9223372036854775808 then n % 18446744073709551616 - 18446744073709551616 else n % 18446744073709551616):=by
    simp [IntKind.wrap,IntKind.signed,IntKind.bits]
  rw [e]
  split <;> omega
abbrev tI:Ty:=.int .i64
abbrev tIs:Ty:=.sl tI
abbrev tPart:Ty:=.pair tI tI
abbrev tV:Ty:=.pair tI (.pair tI tI)
abbrev tVs:Ty:=.sl tV
abbrev V:=Int × Int × Int
abbrev tW:Ty:=.pair tI tI
abbrev tBan:Ty:=.pair tI (.pair tI (.pair tI (.pair tI (.pair tI tI))))
abbrev tRig:Ty:=.pair tIs (.sl tBan)
abbrev Way:=Int × Int
abbrev Ban:=Int × Int × Int × Int × Int × Int
abbrev Rig:=List Int × List Ban
theorem drop_step {α:Type} (d:α) {l:List α} {i:Int} (h0:0 ≤ i) (h:i < l.length):l.drop i.toNat = l.getD i.toNat d :: l.drop (i + 1).toNat:=by
  have h1:i.toNat < l.length:=by omega
  rw [List.drop_eq_getElem_cons h1,show (i + 1).toNat = i.toNat + 1 by omega,List.getD_eq_getElem?_getD,List.getElem?_eq_getElem h1,Option.getD_some]
theorem drop_end {α:Type} {l:List α} {i:Int} (h:¬ i < l.length):l.drop i.toNat = []:=List.drop_eq_nil_of_le (by omega)
theorem getD_mem {α:Type} {d:α} {l:List α} {i:Nat} (h:i < l.length):l.getD i d ∈ l:=by
  rw [List.getD_eq_getElem?_getD,List.getElem?_eq_getElem h]
  exact List.getElem_mem h
def ixS {α:Type} (p:α → Bool) (l:List α):Int:=if l.any p = true then (l.findIdx p:Int) else -1
theorem ixS_ge {α:Type} (p:α → Bool) (l:List α):decide (ixS p l ≥ 0) = l.any p:=by
  unfold ixS
  cases h:l.any p with
  | true => simp
  | false => simp
def ixR {α:Type} (p:α → Bool) (l:List α) (i:Int):Int:=i + ((l.drop i.toNat).findIdx p:Int)
theorem ix_step {α:Type} {p:α → Bool} {l:List α} {i:Int} (d:α) (h0:0 ≤ i) (h:i < l.length) :
    (l.drop i.toNat).any p = (p (l.getD i.toNat d) || (l.drop (i + 1).toNat).any p) ∧ (p (l.getD i.toNat d) = true → ixR p l i = i) ∧ (p (l.getD i.toNat d) = false → ixR p l i = ixR p l (i + 1)):=by
  have e:=drop_step d h0 h
  unfold ixR
  rw [e]
  refine ⟨rfl,fun hp => ?_,fun hp => ?_⟩
  · rw [List.findIdx_cons,hp]; simp
  · rw [List.findIdx_cons,hp]; simp only [cond_false]; omega
def wi (n a b:Int):Bool:=decide (a ≤ n) && decide (n ≤ b)
theorem T_within (n a b:Int):fnTree (P:=P) [] (lpOf []) Try.f18 (encL 0 [.val tI,.val tI,.val tI] (n,a,b,())) =
  Tree.cond (decide (a ≤ n)) (.leaf (SV.bool (decide (n ≤ b)))) (.leaf (SV.bool false)):=by kernel_rfl
def c_within:PC P:=PC.of (α:=Int × Int × Int × Unit) 18 [.val tI,.val tI,.val tI] (fun x => x) (fun x => x) (fun _ => rfl)
  (fun _ => none)
  (fun x => .bool (wi x.1 x.2.1 x.2.2.1)) (by kernel_rfl) (by
    rintro ⟨n,a,b,⟨⟩⟩ hp
    refine fn_of hm (by kernel_rfl) (by kernel_rfl) (T_within n a b) trivial ?_
    show Tree.holds (fun s => s = SV.bool (decide (a ≤ n) && decide (n ≤ b))) _
    refine ⟨fun h => ?_,fun h => ?_⟩
    · rw [h,Bool.true_and]; exact rfl
    · rw [h,Bool.false_and]; exact rfl)
def badP (n:Int):Bool:=!wi n 2 8
def badM (n:Int):Bool:=!wi n (-1) 1
theorem T_chk1 (n:Int):fnTree (P:=P) [c_within.gc] (lpOf []) Try.f56 (encL 0 [.val tI] (n,())) =
  Tree.leaf (SV.bool !wi n (2:Int) (8:Int)):=by kernel_rfl
def c_chk1:PC P:=PC.of (α:=Int × Unit) 56 [.val tI] (fun x => x) (fun x => x) (fun _ => rfl)
  (fun _ => none)
  (fun x => .bool (badP x.1)) (by kernel_rfl) (by
    rintro ⟨n,⟨⟩⟩ hp
    refine fn_of hm (by kernel_rfl) (by kernel_rfl) (T_chk1 n) trivial ?_
    exact rfl)
theorem T_mov1 (n:Int):fnTree (P:=P) [c_within.gc] (lpOf []) Try.f52 (encL 0 [.val tI] (n,())) =
  Tree.leaf (SV.bool !wi n (-1:Int) (1:Int)):=by kernel_rfl
def c_mov1:PC P:=PC.of (α:=Int × Unit) 52 [.val tI] (fun x => x) (fun x => x) (fun _ => rfl)
  (fun _ => none)
  (fun x => .bool (badM x.1)) (by kernel_rfl) (by
    rintro ⟨n,⟨⟩⟩ hp
    refine fn_of hm (by kernel_rfl) (by kernel_rfl) (T_mov1 n) trivial ?_
    exact rfl)
def L_ixP0:Lay:={ slots:=[(0,.val (.sl tI)),(1,.fn 56)] }
def L_ixPL:Lay:={ slots:=[(0,.val (.sl tI)),(1,.fn 56),(7,.val tI),(8,.val tI)] }
def L_ixPL_0:Lay:={ slots:=[] }
def L_ixPL_1:Lay:={ slots:=[(4,.val tI)] }
def X_ixPL:Exit → St → Option Lay
  | .exit 0,_ => some L_ixPL_0
  | .ret,_ => some L_ixPL_1
  | _,_ => none
abbrev C_ixPL:Code:=loopC (bodyOf Try.f54) 0
theorem B_ixPL (l:List Int) (n i:Int):loopBodyA (P:=P) [c_chk1.gc] (lpOf []) [] 19 (usd noU (L_ixP0.ids ++ rowIds rowBase L_ixP0.shs)) (inner C_ixPL) L_ixPL X_ixPL (α:=List Int × Unit × Int × Int × Unit) (fun x => x) (fun x => x) (l,(),n,i,()) =
  Tree.cond (decide (i < n)) (.need ((0:Int) ≤ i ∧ i < (l.length:Int)) (.cond (badP (List.getD l (Int.toNat i) (0:Int))) (.leaf (Sum.inr (Exit.ret,Lay.st L_ixPL_1 (usd noU (Lay.ids L_ixP0 ++ rowIds rowBase (Lay.shs L_ixP0))) (i,())))) (.leaf (Sum.inl (l,(),n,IntKind.i64.wrap (i + (1:Int)),()))))) (.leaf (Sum.inr (Exit.exit (0:Nat),Lay.st L_ixPL_0 (usd noU (Lay.ids L_ixP0 ++ rowIds rowBase (Lay.shs L_ixP0))) ()))):=by kernel_rfl
def inv_ixPL:List Int × Unit × Int × Int × Unit → Prop:=fun (l,_,n,i,_) => n = l.length ∧ 0 ≤ i ∧ i ≤ n ∧ (l.length:Int) < 2 ^ 62
def O_ixPL:List Int × Unit × Int × Int × Unit → Tree (Exit × St):=fun (l,_,n,i,_) => .cond ((l.drop i.toNat).any (badP)) (.leaf (.ret,L_ixPL_1.st (usd noU (L_ixP0.ids ++ rowIds rowBase L_ixP0.shs)) (ixR (badP) l i,()))) (.leaf (.exit 0,L_ixPL_0.st (usd noU (L_ixP0.ids ++ rowIds rowBase L_ixP0.shs)) ()))
def R_ixPL:LRun:=runOf 19 L_ixPL (fun x => x) (inv_ixPL) (O_ixPL)
theorem K_ixPL:LoopOk P [] 19 none (usd noU (L_ixP0.ids ++ rowIds rowBase L_ixP0.shs)) C_ixPL (R_ixPL):=by
  refine loop_of hm (cx:=[c_chk1.gc]) [] (xl:=X_ixPL) (α:=List Int × Unit × Int × Int × Unit) (fun x => x) (fun (l,_,n,i,_) => (n - i).toNat) (fun _ => rfl) (by kernel_rfl) (by kernel_rfl) ?_ (by kernel_rfl) trivial ?_
  · intro e S L' h
    unfold X_ixPL at h
    split at h <;> first | (cases h; done) | (cases h; kernel_rfl) | (rcases bif_some h with h | h <;> cases h <;> kernel_rfl)
  · rintro ⟨l,⟨⟩,n,i,⟨⟩⟩ hinv Q hQ
    refine hold_of_eq (B_ixPL l n i) ?_
    obtain ⟨rfl,h0,h1,h2⟩:=hinv
    rw [W_id (n:=i + 1) (by omega) (by omega)]
    unfold O_ixPL at hQ
    dsimp only at hQ
    refine ⟨fun hi => ?_,fun hi => ?_⟩
    · simp only [decide_eq_true_eq] at hi
      have hm:((l.length:Int) - (i + 1)).toNat < ((l.length:Int) - i).toNat:=by omega
      obtain ⟨e1,e2,e3⟩:=ix_step (p:=badP) (0:Int) h0 hi
      rw [e1] at hQ
      refine ⟨⟨h0,hi⟩,fun hp => ?_,fun hp => ?_⟩
      · replace hp:(badP) (l.getD i.toNat (0:Int)) = true:=hp
        rw [hp,Bool.true_or,e2 hp] at hQ
        exact hQ.1 rfl
      · replace hp:(badP) (l.getD i.toNat (0:Int)) = false:=hp
        rw [hp,Bool.false_or,e3 hp] at hQ
        exact ⟨⟨⟨rfl,by omega,by omega,h2⟩,hm⟩,hQ⟩
    · simp only [decide_eq_false_iff_not] at hi
      rw [drop_end hi] at hQ
      exact hQ.2 rfl
def L_ixP:Lay:={ slots:=[(0,.val (.sl tI)),(1,.fn 56)] }
theorem T_ixP (l:List Int):mTree (P:=P) [] (lpOf [(0,R_ixPL)]) Try.f54 L_ixP true (l,(),()) =
  Tree.need (inv_ixPL (l,(),(l.length:Int),(0:Int),())) (.cond (List.any (List.drop (Int.toNat (0:Int)) l) badP) (.leaf { res:=SV.int IntKind.i64 (ixR badP l (0:Int)),boxes:=[] }) (.leaf { res:=SV.int IntKind.i64 (-1:Int),boxes:=[] })):=by kernel_rfl
def c_ixP:MC P:=MC.of (α:=List Int × Unit × Unit) 54 L_ixP (fun x => x) (fun x => x) (fun _ => rfl)
  (fun (l,_,_) => some ((l.length:Int) < 2 ^ 62))
  (fun (l,_,_) => ⟨.int .i64 (ixS (badP) l),[],[]⟩) (by kernel_rfl) (by kernel_rfl) (by kernel_rfl) (by
    rintro ⟨l,⟨⟩,⟨⟩⟩ hp
    refine m_of hm (own:=true) (by kernel_rfl) (by kernel_rfl) (by kernel_rfl) (T_ixP l) ⟨K_ixPL,trivial⟩ ?_
    refine ⟨⟨rfl,by omega,by omega,hp⟩,fun h => ?_,fun h => ?_⟩
    · simp only [Int.toNat_zero,List.drop_zero] at h
      have e:ixR (badP) l 0 = ixS (badP) l:=by
        unfold ixS ixR
        rw [if_pos h]
        simp only [Int.toNat_zero,List.drop_zero,Int.zero_add]
      exact congrArg (fun k:Int => (⟨.int .i64 k,[],[]⟩ : MOut)) e
    · simp only [Int.toNat_zero,List.drop_zero] at h
      have e : -1 = ixS (badP) l:=by
        unfold ixS
        rw [if_neg (by simp only [h]; decide)]
      exact congrArg (fun k:Int => (⟨.int .i64 k,[],[]⟩ : MOut)) e)
def L_ixPC:Lay:={ slots:=[(0,.val (.sl tI)),(1,.fn 56)] }
theorem T_ixPC (l:List Int):mTree (P:=P) [c_ixP.gc] (lpOf []) Try.f29 L_ixPC true (l,(),()) =
  Tree.need ((l.length:Int) < (2:Int) ^ (62:Nat)) (.leaf { res:=SV.bool (decide (ixS badP l ≥ (0:Int))),boxes:=[] }):=by kernel_rfl
def c_ixPC:MC P:=MC.of (α:=List Int × Unit × Unit) 29 L_ixPC (fun x => x) (fun x => x) (fun _ => rfl)
  (fun (l,_,_) => some ((l.length:Int) < 2 ^ 62))
  (fun (l,_,_) => ⟨.bool (l.any (badP)),[],[]⟩) (by kernel_rfl) (by kernel_rfl) (by kernel_rfl) (by
    rintro ⟨l,⟨⟩,⟨⟩⟩ hp
    refine m_of hm (own:=true) (by kernel_rfl) (by kernel_rfl) (by kernel_rfl) (T_ixPC l) trivial ?_
    exact ⟨hp,congrArg (fun k:Bool => (⟨.bool k,[],[]⟩ : MOut)) (ixS_ge (badP) l)⟩)
def L_ixM0:Lay:={ slots:=[(0,.val (.sl tI)),(1,.fn 52)] }
def L_ixML:Lay:={ slots:=[(0,.val (.sl tI)),(1,.fn 52),(7,.val tI),(8,.val tI)] }
def L_ixML_0:Lay:={ slots:=[] }
def L_ixML_1:Lay:={ slots:=[(4,.val tI)] }
def X_ixML:Exit → St → Option Lay
  | .exit 0,_ => some L_ixML_0
  | .ret,_ => some L_ixML_1
  | _,_ => none
abbrev C_ixML:Code:=loopC (bodyOf Try.f54) 0
theorem B_ixML (l:List Int) (n i:Int):loopBodyA (P:=P) [c_mov1.gc] (lpOf []) [] 19 (usd noU (L_ixM0.ids ++ rowIds rowBase L_ixM0.shs)) (inner C_ixML) L_ixML X_ixML (α:=List Int × Unit × Int × Int × Unit) (fun x => x) (fun x => x) (l,(),n,i,()) =
  Tree.cond (decide (i < n)) (.need ((0:Int) ≤ i ∧ i < (l.length:Int)) (.cond (badM (List.getD l (Int.toNat i) (0:Int))) (.leaf (Sum.inr (Exit.ret,Lay.st L_ixML_1 (usd noU (Lay.ids L_ixM0 ++ rowIds rowBase (Lay.shs L_ixM0))) (i,())))) (.leaf (Sum.inl (l,(),n,IntKind.i64.wrap (i + (1:Int)),()))))) (.leaf (Sum.inr (Exit.exit (0:Nat),Lay.st L_ixML_0 (usd noU (Lay.ids L_ixM0 ++ rowIds rowBase (Lay.shs L_ixM0))) ()))):=by kernel_rfl
def inv_ixML:List Int × Unit × Int × Int × Unit → Prop:=fun (l,_,n,i,_) => n = l.length ∧ 0 ≤ i ∧ i ≤ n ∧ (l.length:Int) < 2 ^ 62
def O_ixML:List Int × Unit × Int × Int × Unit → Tree (Exit × St):=fun (l,_,n,i,_) => .cond ((l.drop i.toNat).any (badM)) (.leaf (.ret,L_ixML_1.st (usd noU (L_ixM0.ids ++ rowIds rowBase L_ixM0.shs)) (ixR (badM) l i,()))) (.leaf (.exit 0,L_ixML_0.st (usd noU (L_ixM0.ids ++ rowIds rowBase L_ixM0.shs)) ()))
def R_ixML:LRun:=runOf 19 L_ixML (fun x => x) (inv_ixML) (O_ixML)
theorem K_ixML:LoopOk P [] 19 none (usd noU (L_ixM0.ids ++ rowIds rowBase L_ixM0.shs)) C_ixML (R_ixML):=by
  refine loop_of hm (cx:=[c_mov1.gc]) [] (xl:=X_ixML) (α:=List Int × Unit × Int × Int × Unit) (fun x => x) (fun (l,_,n,i,_) => (n - i).toNat) (fun _ => rfl) (by kernel_rfl) (by kernel_rfl) ?_ (by kernel_rfl) trivial ?_
  · intro e S L' h
    unfold X_ixML at h
    split at h <;> first | (cases h; done) | (cases h; kernel_rfl) | (rcases bif_some h with h | h <;> cases h <;> kernel_rfl)
  · rintro ⟨l,⟨⟩,n,i,⟨⟩⟩ hinv Q hQ
    refine hold_of_eq (B_ixML l n i) ?_
    obtain ⟨rfl,h0,h1,h2⟩:=hinv
    rw [W_id (n:=i + 1) (by omega) (by omega)]
    unfold O_ixML at hQ
    dsimp only at hQ
    refine ⟨fun hi => ?_,fun hi => ?_⟩
    · simp only [decide_eq_true_eq] at hi
      have hm:((l.length:Int) - (i + 1)).toNat < ((l.length:Int) - i).toNat:=by omega
      obtain ⟨e1,e2,e3⟩:=ix_step (p:=badM) (0:Int) h0 hi
      rw [e1] at hQ
      refine ⟨⟨h0,hi⟩,fun hp => ?_,fun hp => ?_⟩
      · replace hp:(badM) (l.getD i.toNat (0:Int)) = true:=hp
        rw [hp,Bool.true_or,e2 hp] at hQ
        exact hQ.1 rfl
      · replace hp:(badM) (l.getD i.toNat (0:Int)) = false:=hp
        rw [hp,Bool.false_or,e3 hp] at hQ
        exact ⟨⟨⟨rfl,by omega,by omega,h2⟩,hm⟩,hQ⟩
    · simp only [decide_eq_false_iff_not] at hi
      rw [drop_end hi] at hQ
      exact hQ.2 rfl
def L_ixM:Lay:={ slots:=[(0,.val (.sl tI)),(1,.fn 52)] }
theorem T_ixM (l:List Int):mTree (P:=P) [] (lpOf [(0,R_ixML)]) Try.f54 L_ixM true (l,(),()) =
  Tree.need (inv_ixML (l,(),(l.length:Int),(0:Int),())) (.cond (List.any (List.drop (Int.toNat (0:Int)) l) badM) (.leaf { res:=SV.int IntKind.i64 (ixR badM l (0:Int)),boxes:=[] }) (.leaf { res:=SV.int IntKind.i64 (-1:Int),boxes:=[] })):=by kernel_rfl
def c_ixM:MC P:=MC.of (α:=List Int × Unit × Unit) 54 L_ixM (fun x => x) (fun x => x) (fun _ => rfl)
  (fun (l,_,_) => some ((l.length:Int) < 2 ^ 62))
  (fun (l,_,_) => ⟨.int .i64 (ixS (badM) l),[],[]⟩) (by kernel_rfl) (by kernel_rfl) (by kernel_rfl) (by
    rintro ⟨l,⟨⟩,⟨⟩⟩ hp
    refine m_of hm (own:=true) (by kernel_rfl) (by kernel_rfl) (by kernel_rfl) (T_ixM l) ⟨K_ixML,trivial⟩ ?_
    refine ⟨⟨rfl,by omega,by omega,hp⟩,fun h => ?_,fun h => ?_⟩
    · simp only [Int.toNat_zero,List.drop_zero] at h
      have e:ixR (badM) l 0 = ixS (badM) l:=by
        unfold ixS ixR
        rw [if_pos h]
        simp only [Int.toNat_zero,List.drop_zero,Int.zero_add]
      exact congrArg (fun k:Int => (⟨.int .i64 k,[],[]⟩ : MOut)) e
    · simp only [Int.toNat_zero,List.drop_zero] at h
      have e : -1 = ixS (badM) l:=by
        unfold ixS
        rw [if_neg (by simp only [h]; decide)]
      exact congrArg (fun k:Int => (⟨.int .i64 k,[],[]⟩ : MOut)) e)
def L_ixMC:Lay:={ slots:=[(0,.val (.sl tI)),(1,.fn 52)] }
theorem T_ixMC (l:List Int):mTree (P:=P) [c_ixM.gc] (lpOf []) Try.f29 L_ixMC true (l,(),()) =
  Tree.need ((l.length:Int) < (2:Int) ^ (62:Nat)) (.leaf { res:=SV.bool (decide (ixS badM l ≥ (0:Int))),boxes:=[] }):=by kernel_rfl
def c_ixMC:MC P:=MC.of (α:=List Int × Unit × Unit) 29 L_ixMC (fun x => x) (fun x => x) (fun _ => rfl)
  (fun (l,_,_) => some ((l.length:Int) < 2 ^ 62))
  (fun (l,_,_) => ⟨.bool (l.any (badM)),[],[]⟩) (by kernel_rfl) (by kernel_rfl) (by kernel_rfl) (by
    rintro ⟨l,⟨⟩,⟨⟩⟩ hp
    refine m_of hm (own:=true) (by kernel_rfl) (by kernel_rfl) (by kernel_rfl) (T_ixMC l) trivial ?_
    exact ⟨hp,congrArg (fun k:Bool => (⟨.bool k,[],[]⟩ : MOut)) (ixS_ge (badM) l)⟩)
def meetS (w:Way) (a b:Int):Bool:=wi w.1 a b || wi w.2 a b
theorem T_meets (x y a b:Int):fnTree (P:=P) [c_within.gc] (lpOf []) Try.f59 (encL 0 [.agg tW,.val tI,.val tI] ((x,y),a,b,())) =
  Tree.need ((0:Int) ≤ (0:Int) ∧ (0:Int) < (↑(2:Nat):Int)) (.cond (wi x a b) (.leaf (SV.bool true)) (.need ((0:Int) ≤ (1:Int) ∧ (1:Int) < (↑(2:Nat):Int)) (.leaf (SV.bool (wi y a b))))):=by kernel_rfl
def c_meets:PC P:=PC.of (α:=Way × Int × Int × Unit) 59 [.agg tW,.val tI,.val tI] (fun x => x) (fun x => x) (fun _ => rfl)
  (fun _ => none)
  (fun x => .bool (meetS x.1 x.2.1 x.2.2.1)) (by kernel_rfl) (by
    rintro ⟨⟨x,y⟩,a,b,⟨⟩⟩ hp
    refine fn_of hm (by kernel_rfl) (by kernel_rfl) (T_meets x y a b) trivial ?_
    show Tree.holds (fun s => s = SV.bool (wi x a b || wi y a b)) _
    refine ⟨by decide,fun h => ?_,fun h => ⟨by decide,?_⟩⟩
    · rw [h,Bool.true_or]; exact rfl
    · rw [h,Bool.false_or]; exact rfl)
def banS (ws:List Way) (b:Ban):Bool:=meetS (ws.getD b.1.toNat (0,0)) b.2.1 b.2.2.1 && meetS (ws.getD b.2.2.2.1.toNat (0,0)) b.2.2.2.2.1 b.2.2.2.2.2
def okB (n:Nat) (b:Ban):Prop:=0 ≤ b.1 ∧ b.1 < n ∧ 0 ≤ b.2.2.2.1 ∧ b.2.2.2.1 < n
def L_bans1:Lay:={ slots:=[(0,.agg tBan),(1,.ptr 1 0)],boxes:=[(1,[.val (.sl tW)])] }
theorem T_bans1 (a b c d e f:Int) (ws:List Way):mTree (P:=P) [c_meets.gc] (lpOf []) Try.f58 L_bans1 true ((a,b,c,d,e,f),(),ws,()) =
  Tree.need ((0:Int) ≤ a ∧ a < (ws.length:Int)) (.cond (meetS (List.getD ws (Int.toNat a) (0,0)) b c) (.need ((0:Int) ≤ d ∧ d < (ws.length:Int)) (.leaf { res:=SV.bool (meetS (List.getD ws (Int.toNat d) (0,0)) e f),boxes:=[[SV.sl tW ws]] })) (.leaf { res:=SV.bool false,boxes:=[[SV.sl tW ws]] })):=by kernel_rfl
def c_bans1:MC P:=MC.of (α:=Ban × Unit × List Way × Unit) 58 L_bans1 (fun x => x) (fun x => x) (fun _ => rfl)
  (fun (b,_,ws,_) => some (okB ws.length b))
  (fun (b,_,ws,_) => ⟨.bool (banS ws b),[[.sl tW ws]],[]⟩) (by kernel_rfl) (by kernel_rfl) (by kernel_rfl) (by
    rintro ⟨⟨a,b,c,d,e,f⟩,⟨⟩,ws,⟨⟩⟩ hp
    refine m_of hm (own:=true) (by kernel_rfl) (by kernel_rfl) (by kernel_rfl) (T_bans1 a b c d e f ws) trivial ?_
    obtain ⟨h1,h2,h3,h4⟩ : okB ws.length (a,b,c,d,e,f):=hp
    dsimp only at h1 h2 h3 h4
    refine ⟨⟨h1,h2⟩,fun h => ⟨⟨h3,h4⟩,?_⟩,fun h => ?_⟩
    · have e:banS ws (a,b,c,d,e,f) = meetS (ws.getD d.toNat (0,0)) e f:=by unfold banS; dsimp only; rw [h,Bool.true_and]
      exact congrArg (fun k:Bool => (⟨.bool k,[[.sl tW ws]],[]⟩ : MOut)) e.symm
    · have e:banS ws (a,b,c,d,e,f) = false:=by unfold banS; dsimp only; rw [h,Bool.false_and]
      exact congrArg (fun k:Bool => (⟨.bool k,[[.sl tW ws]],[]⟩ : MOut)) e.symm)
def L_ixB0:Lay:={ slots:=[(0,.val (.sl tBan)),(1,.clo 58 [(1,0)])],boxes:=[(1,[.val (.sl tW)])] }
def L_ixBL:Lay:={ slots:=[(0,.val (.sl tBan)),(1,.clo 58 [(1,0)]),(7,.val tI),(8,.val tI)],boxes:=[(1,[.val (.sl tW)])] }
def L_ixBL_0:Lay:={ slots:=[],boxes:=[(1,[.val (.sl tW)])] }
def L_ixBL_1:Lay:={ slots:=[(4,.val tI)],boxes:=[(1,[.val (.sl tW)])] }
def X_ixBL:Exit → St → Option Lay
  | .exit 0,_ => some L_ixBL_0
  | .ret,_ => some L_ixBL_1
  | _,_ => none
abbrev C_ixBL:Code:=loopC (bodyOf Try.f57) 0
theorem B_ixBL (l:List Ban) (n i:Int) (ws:List Way):loopBodyA (P:=P) [c_bans1.gc] (lpOf []) [] 19 (usd noU (L_ixB0.ids ++ rowIds rowBase L_ixB0.shs)) (inner C_ixBL) L_ixBL X_ixBL (α:=List Ban × Unit × Int × Int × List Way × Unit) (fun x => x) (fun x => x) (l,(),n,i,ws,()) =
  Tree.cond (decide (i < n)) (.need ((0:Int) ≤ i ∧ i < (l.length:Int)) (.need (okB (List.length ws) (List.getD l (Int.toNat i) (0,0,0,0,0,0))) (.cond (banS ws (List.getD l (Int.toNat i) (0,0,0,0,0,0))) (.leaf (Sum.inr (Exit.ret,Lay.st L_ixBL_1 (usd noU (Lay.ids L_ixB0 ++ rowIds rowBase (Lay.shs L_ixB0))) (i,ws,())))) (.leaf (Sum.inl (l,(),n,IntKind.i64.wrap (i + (1:Int)),ws,())))))) (.leaf (Sum.inr (Exit.exit (0:Nat),Lay.st L_ixBL_0 (usd noU (Lay.ids L_ixB0 ++ rowIds rowBase (Lay.shs L_ixB0))) (ws,())))):=by kernel_rfl
def inv_ixBL:List Ban × Unit × Int × Int × List Way × Unit → Prop:=fun (l,_,n,i,ws,_) => n = l.length ∧ 0 ≤ i ∧ i ≤ n ∧ (l.length:Int) < 2 ^ 62 ∧ ∀ x ∈ l,okB ws.length x
def O_ixBL:List Ban × Unit × Int × Int × List Way × Unit → Tree (Exit × St):=fun (l,_,n,i,ws,_) => .cond ((l.drop i.toNat).any (banS ws)) (.leaf (.ret,L_ixBL_1.st (usd noU (L_ixB0.ids ++ rowIds rowBase L_ixB0.shs)) (ixR (banS ws) l i,ws,()))) (.leaf (.exit 0,L_ixBL_0.st (usd noU (L_ixB0.ids ++ rowIds rowBase L_ixB0.shs)) (ws,())))
def R_ixBL:LRun:=runOf 19 L_ixBL (fun x => x) (inv_ixBL) (O_ixBL)
theorem K_ixBL:LoopOk P [] 19 none (usd noU (L_ixB0.ids ++ rowIds rowBase L_ixB0.shs)) C_ixBL (R_ixBL):=by
  refine loop_of hm (cx:=[c_bans1.gc]) [] (xl:=X_ixBL) (α:=List Ban × Unit × Int × Int × List Way × Unit) (fun x => x) (fun (l,_,n,i,ws,_) => (n - i).toNat) (fun _ => rfl) (by kernel_rfl) (by kernel_rfl) ?_ (by kernel_rfl) trivial ?_
  · intro e S L' h
    unfold X_ixBL at h
    split at h <;> first | (cases h; done) | (cases h; kernel_rfl) | (rcases bif_some h with h | h <;> cases h <;> kernel_rfl)
  · rintro ⟨l,⟨⟩,n,i,ws,⟨⟩⟩ hinv Q hQ
    refine hold_of_eq (B_ixBL l n i ws) ?_
    obtain ⟨rfl,h0,h1,h2,h9⟩:=hinv
    rw [W_id (n:=i + 1) (by omega) (by omega)]
    unfold O_ixBL at hQ
    dsimp only at hQ
    refine ⟨fun hi => ?_,fun hi => ?_⟩
    · simp only [decide_eq_true_eq] at hi
      have hm:((l.length:Int) - (i + 1)).toNat < ((l.length:Int) - i).toNat:=by omega
      obtain ⟨e1,e2,e3⟩:=ix_step (p:=banS ws) ((0,0,0,0,0,0):Ban) h0 hi
      rw [e1] at hQ
      refine ⟨⟨h0,hi⟩,h9 _ (getD_mem (d:=((0,0,0,0,0,0):Ban)) (show i.toNat < l.length by omega)),fun hp => ?_,fun hp => ?_⟩
      · replace hp:(banS ws) (l.getD i.toNat ((0,0,0,0,0,0):Ban)) = true:=hp
        rw [hp,Bool.true_or,e2 hp] at hQ
        exact hQ.1 rfl
      · replace hp:(banS ws) (l.getD i.toNat ((0,0,0,0,0,0):Ban)) = false:=hp
        rw [hp,Bool.false_or,e3 hp] at hQ
        exact ⟨⟨⟨rfl,by omega,by omega,h2,h9⟩,hm⟩,hQ⟩
    · simp only [decide_eq_false_iff_not] at hi
      rw [drop_end hi] at hQ
      exact hQ.2 rfl
def L_ixB:Lay:={ slots:=[(0,.val (.sl tBan)),(1,.clo 58 [(1,0)])],boxes:=[(1,[.val (.sl tW)])] }
theorem T_ixB (l:List Ban) (ws:List Way):mTree (P:=P) [] (lpOf [(0,R_ixBL)]) Try.f57 L_ixB true (l,(),ws,()) =
  Tree.need (inv_ixBL (l,(),(l.length:Int),(0:Int),ws,())) (.cond (List.any (List.drop (Int.toNat (0:Int)) l) (banS ws)) (.leaf { res:=SV.int IntKind.i64 (ixR (banS ws) l (0:Int)),boxes:=[[SV.sl tW ws]] }) (.leaf { res:=SV.int IntKind.i64 (-1:Int),boxes:=[[SV.sl tW ws]] })):=by kernel_rfl
def c_ixB:MC P:=MC.of (α:=List Ban × Unit × List Way × Unit) 57 L_ixB (fun x => x) (fun x => x) (fun _ => rfl)
  (fun (l,_,ws,_) => some ((l.length:Int) < 2 ^ 62 ∧ ∀ x ∈ l,okB ws.length x))
  (fun (l,_,ws,_) => ⟨.int .i64 (ixS (banS ws) l),[[.sl tW ws]],[]⟩) (by kernel_rfl) (by kernel_rfl) (by kernel_rfl) (by
    rintro ⟨l,⟨⟩,ws,⟨⟩⟩ hp
    refine m_of hm (own:=true) (by kernel_rfl) (by kernel_rfl) (by kernel_rfl) (T_ixB l ws) ⟨K_ixBL,trivial⟩ ?_
    refine ⟨⟨rfl,by omega,by omega,hp.1,hp.2⟩,fun h => ?_,fun h => ?_⟩
    · simp only [Int.toNat_zero,List.drop_zero] at h
      have e:ixR (banS ws) l 0 = ixS (banS ws) l:=by
        unfold ixS ixR
        rw [if_pos h]
        simp only [Int.toNat_zero,List.drop_zero,Int.zero_add]
      exact congrArg (fun k:Int => (⟨.int .i64 k,[[.sl tW ws]],[]⟩ : MOut)) e
    · simp only [Int.toNat_zero,List.drop_zero] at h
      have e : -1 = ixS (banS ws) l:=by
        unfold ixS
        rw [if_neg (by simp only [h]; decide)]
      exact congrArg (fun k:Int => (⟨.int .i64 k,[[.sl tW ws]],[]⟩ : MOut)) e)
theorem T_bans (ps:List Int) (bs:List Ban) (ws:List Way):fnTree (P:=P) [c_ixB.gc] (lpOf []) Try.f33 (encL 0 [.agg tRig,.val (.sl tW)] ((ps,bs),ws,())) =
  Tree.need ((bs.length:Int) < (2:Int) ^ (62:Nat) ∧ ∀ (x:Ban),x ∈ bs → okB (List.length ws) x) (.leaf (SV.int IntKind.i64 (ixS (banS ws) bs))):=by kernel_rfl
def c_bans:PC P:=PC.of (α:=Rig × List Way × Unit) 33 [.agg tRig,.val (.sl tW)] (fun x => x) (fun x => x) (fun _ => rfl)
  (fun x => some ((x.1.2.length:Int) < 2 ^ 62 ∧ ∀ b ∈ x.1.2,okB x.2.1.length b))
  (fun x => .int .i64 (ixS (banS x.2.1) x.1.2)) (by kernel_rfl) (by
    rintro ⟨⟨ps,bs⟩,ws,⟨⟩⟩ hp
    refine fn_of hm (by kernel_rfl) (by kernel_rfl) (T_bans ps bs ws) trivial ?_
    exact ⟨hp,rfl⟩)
def stillS (s:List Int):List Way:=s.map (fun p => (p,p))
theorem stillS_step {s:List Int} {i:Int} (h0:0 ≤ i) (h:i < s.length):stillS (s.drop i.toNat) = (s.getD i.toNat 0,s.getD i.toNat 0) :: stillS (s.drop (i + 1).toNat):=by
  rw [drop_step (0:Int) h0 h]; rfl
theorem stillS_nil:stillS [] = []:=rfl
theorem stillS_len (s:List Int):(stillS s).length = s.length:=by unfold stillS; rw [List.length_map]
def L_stillL:Lay:={ slots:=[(3,.row 135 tPart),(6,.val tIs),(7,.val tI),(8,.val tI)] }
def L_stillL_0:Lay:={ slots:=[(3,.row 135 tPart)] }
def X_stillL:Exit → St → Option Lay
  | .exit 0,_ => some L_stillL_0
  | _,_ => none
abbrev C_stillL:Code:=loopC (bodyOf Try.f34) 0
theorem B_stillL (r:List (Int × Int)) (s:List Int) (n i:Int):loopBodyA (P:=P) [] (lpOf []) [] 20 noU (inner C_stillL) L_stillL X_stillL (α:=List (Int × Int) × List Int × Int × Int × Unit) (fun x => x) (fun x => x) (r,s,n,i,()) =
  Tree.cond (decide (i < n)) (.need ((0:Int) ≤ i ∧ i < (s.length:Int)) (.need ((List.length r + List.length [(List.getD s (Int.toNat i) (0:Int),List.getD s (Int.toNat i) (0:Int))]) * (16:Nat) ≤ (140737488355328:Nat)) (.leaf (Sum.inl (r ++ [(List.getD s (Int.toNat i) (0:Int),List.getD s (Int.toNat i) (0:Int))],s,n,IntKind.i64.wrap (i + (1:Int)),()))))) (.leaf (Sum.inr (Exit.exit (0:Nat),Lay.st L_stillL_0 noU (r,())))):=by kernel_rfl
def inv_stillL:List (Int × Int) × List Int × Int × Int × Unit → Prop:=fun (r,s,n,i,()) => n = s.length ∧ 0 ≤ i ∧ i ≤ n ∧ (s.length:Int) ≤ 1000 ∧ (r.length:Int) + (n - i) ≤ 1000
def O_stillL:List (Int × Int) × List Int × Int × Int × Unit → Tree (Exit × St):=fun (r,s,n,i,()) => (.leaf (.exit 0,L_stillL_0.st noU ((r ++ stillS (s.drop i.toNat)),())))
def R_stillL:LRun:=runOf 20 L_stillL (fun x => x) (inv_stillL) (O_stillL)
theorem K_stillL:LoopOk P [] 20 none noU C_stillL (R_stillL):=by
  refine loop_of hm (cx:=[]) [] (xl:=X_stillL) (α:=List (Int × Int) × List Int × Int × Int × Unit) (fun x => x) (fun (r,s,n,i,()) => (n - i).toNat) (fun _ => rfl) (by kernel_rfl) (by kernel_rfl) ?_ (by kernel_rfl) trivial ?_
  · intro e S L' h
    unfold X_stillL at h
    split at h <;> first | (cases h; done) | (cases h; kernel_rfl) | (rcases bif_some h with h | h <;> cases h <;> kernel_rfl)
  · rintro ⟨r,s,n,i,⟨⟩⟩ hinv Q hQ
    refine hold_of_eq (B_stillL r s n i) ?_
    obtain ⟨rfl,h0,h1,h2,h3⟩:=hinv
    rw [W_id (n:=i + 1) (by omega) (by omega)]
    have hQ' : Q (.exit 0,L_stillL_0.st noU (r ++ stillS (s.drop i.toNat),())):=hQ
    refine ⟨fun c1 => ?_,fun c1 => ?_⟩
    · simp only [decide_eq_true_eq] at c1
      have hm:((s.length:Int) - (i + 1)).toNat < ((s.length:Int) - i).toNat:=by omega
      rw [stillS_step h0 c1,List.append_cons] at hQ'
      refine ⟨⟨h0,c1⟩,?_,⟨⟨rfl,by omega,by omega,h2,?_⟩,hm⟩,hQ'⟩
      · show (r.length + 1) * 16 ≤ 140737488355328; omega
      · rw [List.length_append]; show ((r.length + 1:Nat):Int) + _ ≤ _; omega
    · simp only [decide_eq_false_iff_not] at c1
      rw [drop_end c1,stillS_nil,List.append_nil] at hQ'
      exact hQ'
theorem T_still (s0:List Int):frTree (P:=P) [] (lpOf [(0,R_stillL)]) Try.f34 (encL 0 [.val tIs] (s0,())) =
  Tree.need (inv_stillL ([],s0,(s0.length:Int),(0:Int),())) (.leaf (SV.sl (Ty.pair tI tI) (stillS (List.drop (Int.toNat (0:Int)) s0)))):=by kernel_rfl
def c_still:FC P:=FC.of (α:=List Int × Unit) 34 [.val tIs] (fun x => x) (fun x => x) (fun _ => rfl)
  (fun x => some (x.1.length ≤ 1000))
  (fun x => .sl tPart (stillS x.1)) (by kernel_rfl) (by
    rintro ⟨s0,⟨⟩⟩ hp
    refine fr_le hm (by kernel_rfl) (by kernel_rfl) (T_still s0) ⟨K_stillL,trivial⟩ (by kernel_rfl) ?_
    try dsimp only at hp
    try dsimp only
    have hp' : s0.length ≤ 1000:=hp
    exact ⟨⟨rfl,by decide,by omega,by omega,by show (0:Int) + _ ≤ _; omega⟩,rfl⟩)
def wayL:List Int → List Int → List Way
  | p :: s,x :: m => (p,IntKind.i64.wrap (p + x)) :: wayL s m
  | _,_ => []
def wayOk:List Int → List Int → List Int → Bool
  | p :: s,x :: m,q :: ps => wi (IntKind.i64.wrap (p + x)) 0 (IntKind.i64.wrap (q - 1)) && wayOk s m ps
  | _,_,_ => true
theorem wayL_step {s m:List Int} {i:Int} (h0:0 ≤ i) (h:i < s.length) (h2:i < m.length):wayL (s.drop i.toNat) (m.drop i.toNat) = (s.getD i.toNat 0,IntKind.i64.wrap (s.getD i.toNat 0 + m.getD i.toNat 0)) :: wayL (s.drop (i + 1).toNat) (m.drop (i + 1).toNat):=by
  rw [drop_step (0:Int) h0 h,drop_step (0:Int) h0 h2,wayL]
theorem wayOk_step {s m ps:List Int} {i:Int} (h0:0 ≤ i) (h:i < s.length) (h2:i < m.length) (h3:i < ps.length):wayOk (s.drop i.toNat) (m.drop i.toNat) (ps.drop i.toNat) = (wi (IntKind.i64.wrap (s.getD i.toNat 0 + m.getD i.toNat 0)) 0 (IntKind.i64.wrap (ps.getD i.toNat 0 - 1)) && wayOk (s.drop (i + 1).toNat) (m.drop (i + 1).toNat) (ps.drop (i + 1).toNat)):=by
  rw [drop_step (0:Int) h0 h,drop_step (0:Int) h0 h2,drop_step (0:Int) h0 h3,wayOk]
theorem wayL_nil (m:List Int):wayL [] m = []:=by unfold wayL; rfl
theorem wayOk_nil (m ps:List Int):wayOk [] m ps = true:=by unfold wayOk; rfl
theorem leS_w (l:List Way) (b:Bool):LeS (.tup [.sl tPart l,.bool b]) (.tup [.sl tPart l,.bool b]):=by simp [LeS,LeL]
theorem leS_n (b:Bool):LeS (.tup [.nils,.bool b]) (.tup [.sl tPart [],.bool b]):=by simp [LeS,LeL]
def waysS (s m ps:List Int):List Way × Bool:=if wayOk s m ps = true then (wayL s m,true) else ([],false)
def L_waysL:Lay:={ slots:=[(2,.val tIs),(3,.ptr 4045 0),(8,.row 135 tPart),(11,.val tIs),(12,.val tI),(13,.val tI)],boxes:=[(4045,[.val tIs,.val (.sl (.pair tI (.pair tI (.pair tI tV))))])] }
def L_waysL_0:Lay:={ slots:=[(6,.nils),(7,.val .bool)] }
def L_waysL_1:Lay:={ slots:=[(8,.row 135 tPart)] }
def X_waysL:Exit → St → Option Lay
  | .ret,_ => some L_waysL_0
  | .exit 0,_ => some L_waysL_1
  | _,_ => none
abbrev C_waysL:Code:=loopC (bodyOf Try.f53) 0
theorem B_waysL (m:List Int) (w:List (Int × Int)) (l:List Int) (n i:Int) (ps:List Int) (bs:List (Int × (Int × (Int × V)))):loopBodyA (P:=P) [c_within.gc] (lpOf []) [] 45 noU (inner C_waysL) L_waysL X_waysL (α:=List Int × Unit × List (Int × Int) × List Int × Int × Int × List Int × List (Int × (Int × (Int × V))) × Unit) (fun x => x) (fun x => x) (m,(),w,l,n,i,ps,bs,()) =
  Tree.cond (decide (i < n)) (.need ((0:Int) ≤ i ∧ i < (l.length:Int)) (.need ((0:Int) ≤ i ∧ i < (m.length:Int)) (.need ((0:Int) ≤ i ∧ i < (ps.length:Int)) (.cond (!wi (IntKind.i64.wrap (List.getD l (Int.toNat i) (0:Int) + List.getD m (Int.toNat i) (0:Int))) (0:Int) (IntKind.i64.wrap (List.getD ps (Int.toNat i) (0:Int) - (1:Int)))) (.leaf (Sum.inr (Exit.ret,Lay.st L_waysL_0 noU ((),false,())))) (.need ((0:Int) ≤ i ∧ i < (m.length:Int)) (.need ((List.length w + List.length [(List.getD l (Int.toNat i) (0:Int),IntKind.i64.wrap (List.getD l (Int.toNat i) (0:Int) + List.getD m (Int.toNat i) (0:Int)))]) * (16:Nat) ≤ (140737488355328:Nat)) (.leaf (Sum.inl (m,(),w ++ [(List.getD l (Int.toNat i) (0:Int),IntKind.i64.wrap (List.getD l (Int.toNat i) (0:Int) + List.getD m (Int.toNat i) (0:Int)))],l,n,IntKind.i64.wrap (i + (1:Int)),ps,bs,()))))))))) (.leaf (Sum.inr (Exit.exit (0:Nat),Lay.st L_waysL_1 noU (w,())))):=by kernel_rfl
def inv_waysL:List Int × Unit × List (Int × Int) × List Int × Int × Int × List Int × List (Int × (Int × (Int × V))) × Unit → Prop:=fun (m,(),w,l,n,i,ps,bs,()) => n = l.length ∧ 0 ≤ i ∧ i ≤ n ∧ (l.length:Int) ≤ 1000 ∧ l.length ≤ m.length ∧ l.length ≤ ps.length ∧ (w.length:Int) + (n - i) ≤ 1000
def O_waysL:List Int × Unit × List (Int × Int) × List Int × Int × Int × List Int × List (Int × (Int × (Int × V))) × Unit → Tree (Exit × St):=fun (m,(),w,l,n,i,ps,bs,()) => .cond (wayOk (l.drop i.toNat) (m.drop i.toNat) (ps.drop i.toNat)) (.leaf (.exit 0,L_waysL_1.st noU ((w ++ wayL (l.drop i.toNat) (m.drop i.toNat)),()))) (.leaf (.ret,L_waysL_0.st noU ((),(false),())))
def R_waysL:LRun:=runOf 45 L_waysL (fun x => x) (inv_waysL) (O_waysL)
theorem K_waysL:LoopOk P [] 45 none noU C_waysL (R_waysL):=by
  refine loop_of hm (cx:=[c_within.gc]) [] (xl:=X_waysL) (α:=List Int × Unit × List (Int × Int) × List Int × Int × Int × List Int × List (Int × (Int × (Int × V))) × Unit) (fun x => x) (fun (m,(),w,l,n,i,ps,bs,()) => (n - i).toNat) (fun _ => rfl) (by kernel_rfl) (by kernel_rfl) ?_ (by kernel_rfl) trivial ?_
  · intro e S L' h
    unfold X_waysL at h
    split at h <;> first | (cases h; done) | (cases h; kernel_rfl) | (rcases bif_some h with h | h <;> cases h <;> kernel_rfl)
  · rintro ⟨m,⟨⟩,w,l,n,i,ps,bs,⟨⟩⟩ hinv Q hQ
    refine hold_of_eq (B_waysL m w l n i ps bs) ?_
    obtain ⟨rfl,h0,h1,h2,h3,h4,h5⟩:=hinv
    rw [W_id (n:=i + 1) (by omega) (by omega)]
    unfold O_waysL at hQ
    dsimp only at hQ
    refine ⟨fun c1 => ?_,fun c1 => ?_⟩
    · simp only [decide_eq_true_eq] at c1
      have hm:((l.length:Int) - (i + 1)).toNat < ((l.length:Int) - i).toNat:=by omega
      have b1:i < m.length:=by omega
      have b2:i < ps.length:=by omega
      have e1:=wayOk_step h0 c1 b1 b2
      have e2:=wayL_step h0 c1 b1
      rw [e1] at hQ
      refine ⟨⟨h0,c1⟩,⟨h0,b1⟩,⟨h0,b2⟩,fun c2 => ?_,fun c2 => ⟨⟨h0,b1⟩,?_,⟨⟨rfl,by omega,by omega,h2,h3,h4,?_⟩,hm⟩,?_⟩⟩
      · rw [Bool.not_eq_true'] at c2
        rw [c2,Bool.false_and] at hQ
        exact hQ.2 rfl
      · show (w.length + 1) * 16 ≤ 140737488355328; omega
      · rw [List.length_append]; show ((w.length + 1:Nat):Int) + _ ≤ _; omega
      · rw [Bool.not_eq_false'] at c2
        rw [c2,Bool.true_and,e2,List.append_cons] at hQ
        exact hQ
    · simp only [decide_eq_false_iff_not] at c1
      rw [drop_end c1,wayOk_nil,wayL_nil,List.append_nil] at hQ
      exact hQ.1 rfl
theorem T_ways (r_0:List Int) (r_1:List (Int × (Int × (Int × V)))) (s m:List Int):frTree (P:=P) [] (lpOf [(0,R_waysL)]) Try.f53 (encL 0 [.agg (.pair tIs (.sl (.pair tI (.pair tI (.pair tI tV))))),.val tIs,.val tIs] ((r_0,r_1),s,m,())) =
  Tree.need (inv_waysL (m,(),[],s,(s.length:Int),(0:Int),r_0,r_1,())) (.cond (wayOk (List.drop (Int.toNat (0:Int)) s) (List.drop (Int.toNat (0:Int)) m) (List.drop (Int.toNat (0:Int)) r_0)) (.leaf (SV.tup [SV.sl (Ty.pair tI tI) (wayL (List.drop (Int.toNat (0:Int)) s) (List.drop (Int.toNat (0:Int)) m)),SV.bool true])) (.leaf (SV.tup [SV.nils,SV.bool false]))):=by kernel_rfl
def c_ways:FC P:=FC.of (α:=(List Int × List (Int × (Int × (Int × V)))) × List Int × List Int × Unit) 53 [.agg (.pair tIs (.sl (.pair tI (.pair tI (.pair tI tV))))),.val tIs,.val tIs] (fun x => x) (fun x => x) (fun _ => rfl)
  (fun x => some (x.2.1.length ≤ 1000 ∧ x.2.1.length ≤ x.2.2.1.length ∧ x.2.1.length ≤ x.1.1.length))
  (fun x => .tup [.sl tPart (waysS x.2.1 x.2.2.1 x.1.1).1,.bool (waysS x.2.1 x.2.2.1 x.1.1).2]) (by kernel_rfl) (by
    rintro ⟨⟨r_0,r_1⟩,s,m,⟨⟩⟩ hp
    refine fr_le hm (by kernel_rfl) (by kernel_rfl) (T_ways r_0 r_1 s m) ⟨K_waysL,trivial⟩ (by kernel_rfl) ?_
    try dsimp only at hp
    try dsimp only
    obtain ⟨p1,p2,p3⟩ : s.length ≤ 1000 ∧ s.length ≤ m.length ∧ s.length ≤ r_0.length:=hp
    refine ⟨⟨rfl,by decide,by omega,by omega,p2,p3,by show (0:Int) + _ ≤ _; omega⟩,fun c1 => ?_,fun c1 => ?_⟩
    · have e:waysS s m r_0 = (wayL s m,true):=by unfold waysS; rw [if_pos (show wayOk s m r_0 = true from c1)]
      rw [e]
      exact leS_w _ _
    · have e:waysS s m r_0 = ([],false):=by unfold waysS; rw [if_neg (by rw [show wayOk s m r_0 = false from c1]; simp)]
      rw [e]
      exact leS_n _)
end
end Go.MR
