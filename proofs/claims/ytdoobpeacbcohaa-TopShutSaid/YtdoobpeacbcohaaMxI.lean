/- Rigs: the table's number and state. -/
import Derived.Test.YtdoobpeacbcohaaFw4
import Derived.Test.YtdoobpeacbcohaaMxC
namespace Go.MR
open Go Go.Sx Go.Proofs
set_option linter.unusedVariables false
set_option linter.unusedSimpArgs false
noncomputable section
abbrev Tab:=Rig × List Int × List Bool × Int
abbrev tTab:Ty:=.pair tRig (.pair (.arr (.int .i8) 12288) (.pair (.arr .bool 4096) tI))
def numW:List Int → List Int → Int → Int
  | q :: ps,p :: s,n => numW ps s (IntKind.i64.wrap (IntKind.i64.wrap (n * q) + p))
  | _,_,n => n
theorem numW_nil (ps:List Int) (n:Int):numW ps [] n = n:=by cases ps <;> rfl
theorem numW_step {ps s:List Int} {i n:Int} (h0:0 ≤ i) (h:i < s.length) (h2:i < ps.length):numW (ps.drop i.toNat) (s.drop i.toNat) n = numW (ps.drop (i + 1).toNat) (s.drop (i + 1).toNat) (IntKind.i64.wrap (IntKind.i64.wrap (n * ps.getD i.toNat 0) + s.getD i.toNat 0)):=by
  rw [drop_step (0:Int) h0 h,drop_step (0:Int) h0 h2,numW]
def L_numL:Lay:={ slots:=[(0,.adr (.pair (.pair tIs (.sl (.pair tI (.pair tI (.pair tI tV))))) (.pair (.arr (.int .i8) 12288) (.pair (.arr .bool 4096) tI)))),(5,.val tI),(8,.val tIs),(9,.val tI),(10,.val tI)] }
def L_numL_0:Lay:={ slots:=[(5,.val tI)] }
def X_numL:Exit → St → Option Lay
  | .exit 0,_ => some L_numL_0
  | _,_ => none
abbrev C_numL:Code:=loopC (bodyOf Try.f21) 0
theorem B_numL (ps:List Int) (bs:List (Int × (Int × (Int × V)))) (tk:List Int) (sf:List Bool) (mn n:Int) (l:List Int) (k i:Int):loopBodyA (P:=P) [] (lpOf []) [] 29 noU (inner C_numL) L_numL X_numL (α:=((List Int × List (Int × (Int × (Int × V)))) × (List Int × (List Bool × Int))) × Int × List Int × Int × Int × Unit) (fun x => x) (fun x => x) (((ps,bs),(tk,(sf,mn))),n,l,k,i,()) =
  Tree.cond (decide (i < k)) (.need ((0:Int) ≤ i ∧ i < (l.length:Int)) (.need ((0:Int) ≤ i ∧ i < (ps.length:Int)) (.leaf (Sum.inl (((ps,bs),tk,sf,mn),IntKind.i64.wrap (IntKind.i64.wrap (n * List.getD ps (Int.toNat i) (0:Int)) + List.getD l (Int.toNat i) (0:Int)),l,k,IntKind.i64.wrap (i + (1:Int)),()))))) (.leaf (Sum.inr (Exit.exit (0:Nat),Lay.st L_numL_0 noU (n,())))):=by kernel_rfl
def inv_numL:((List Int × List (Int × (Int × (Int × V)))) × (List Int × (List Bool × Int))) × Int × List Int × Int × Int × Unit → Prop:=fun (((ps,bs),(tk,(sf,mn))),n,l,k,i,()) => k = l.length ∧ 0 ≤ i ∧ i ≤ k ∧ (l.length:Int) ≤ 1000 ∧ l.length ≤ ps.length
def O_numL:((List Int × List (Int × (Int × (Int × V)))) × (List Int × (List Bool × Int))) × Int × List Int × Int × Int × Unit → Tree (Exit × St):=fun (((ps,bs),(tk,(sf,mn))),n,l,k,i,()) => (.leaf (.exit 0,L_numL_0.st noU ((numW (ps.drop i.toNat) (l.drop i.toNat) n),())))
def R_numL:LRun:=runOf 29 L_numL (fun x => x) (inv_numL) (O_numL)
theorem K_numL:LoopOk P [] 29 none noU C_numL (R_numL):=by
  refine loop_of hm (cx:=[]) [] (xl:=X_numL) (α:=((List Int × List (Int × (Int × (Int × V)))) × (List Int × (List Bool × Int))) × Int × List Int × Int × Int × Unit) (fun x => x) (fun (((ps,bs),(tk,(sf,mn))),n,l,k,i,()) => (k - i).toNat) (fun _ => rfl) (by kernel_rfl) (by kernel_rfl) ?_ (by kernel_rfl) trivial ?_
  · intro e S L' h
    unfold X_numL at h
    split at h <;> first | (cases h; done) | (cases h; kernel_rfl) | (rcases bif_some h with h | h <;> cases h <;> kernel_rfl)
  · rintro ⟨⟨⟨ps,bs⟩,⟨tk,⟨sf,mn⟩⟩⟩,n,l,k,i,⟨⟩⟩ hinv Q hQ
    refine hold_of_eq (B_numL ps bs tk sf mn n l k i) ?_
    obtain ⟨rfl,h0,h1,h2,h3⟩:=hinv
    rw [W_id (n:=i + 1) (by omega) (by omega)]
    have hQ' : Q (.exit 0,L_numL_0.st noU (numW (ps.drop i.toNat) (l.drop i.toNat) n,())):=hQ
    refine ⟨fun c1 => ?_,fun c1 => ?_⟩
    · have d1:=of_decide_eq_true c1
      have hm:((l.length:Int) - (i + 1)).toNat < ((l.length:Int) - i).toNat:=by omega
      have b1:i < ps.length:=by omega
      rw [numW_step h0 d1 b1] at hQ'
      exact ⟨⟨h0,d1⟩,⟨h0,b1⟩,⟨⟨rfl,by omega,by omega,h2,h3⟩,hm⟩,hQ'⟩
    · have d1:=of_decide_eq_false c1
      rw [drop_end d1,numW_nil] at hQ'
      exact hQ'
def L_number:Lay:={ slots:=[(0,.adr (.pair (.pair tIs (.sl (.pair tI (.pair tI (.pair tI tV))))) (.pair (.arr (.int .i8) 12288) (.pair (.arr .bool 4096) tI)))),(1,.val tIs)] }
theorem T_number (ps:List Int) (bs:List (Int × (Int × (Int × V)))) (tk:List Int) (sf:List Bool) (mn:Int) (s:List Int):mTree (P:=P) [] (lpOf [(0,R_numL)]) Try.f21 L_number true (((ps,bs),(tk,(sf,mn))),s,()) =
  Tree.need (inv_numL (((ps,bs),tk,sf,mn),(0:Int),s,(s.length:Int),(0:Int),())) (.leaf { res:=SV.int IntKind.i64 (numW (List.drop (Int.toNat (0:Int)) ps) (List.drop (Int.toNat (0:Int)) s) (0:Int)),boxes:=[] }):=by kernel_rfl
def c_number:XC P:=XC.of (α:=((List Int × List (Int × (Int × (Int × V)))) × (List Int × (List Bool × Int))) × List Int × Unit) 21 L_number (fun x => x) (fun x => x) (fun _ => rfl)
  (fun x => some (x.2.1.length ≤ 1000 ∧ x.2.1.length ≤ x.1.1.1.length))
  (fun x => ⟨.int .i64 (numW x.1.1.1 x.2.1 0),[],[]⟩) (by kernel_rfl) (by kernel_rfl) (by
    rintro ⟨⟨⟨ps,bs⟩,⟨tk,⟨sf,mn⟩⟩⟩,s,⟨⟩⟩ hp
    refine m_of hm (own:=true) (by kernel_rfl) (by kernel_rfl) (by kernel_rfl) (T_number ps bs tk sf mn s) ⟨K_numL,trivial⟩ ?_
    try dsimp only at hp
    try dsimp only
    obtain ⟨p1,p2⟩ : s.length ≤ 1000 ∧ s.length ≤ ps.length:=hp
    exact ⟨⟨rfl,by decide,by omega,by omega,p2⟩,rfl⟩)
def stR (ps:List Int):Nat → Int → List Int → List Int
  | 0,_,r => r
  | k + 1,n,r => stR ps k (IntKind.i64.wrap (n.tdiv (ps.getD k 0))) (r.set k (n.tmod (ps.getD k 0)))
theorem stR_step {ps r:List Int} {i n:Int} (h0:0 ≤ i):stR ps (i + 1).toNat n r = stR ps i.toNat (IntKind.i64.wrap (n.tdiv (ps.getD i.toNat 0))) (r.set i.toNat (n.tmod (ps.getD i.toNat 0))):=by
  rw [show (i + 1).toNat = i.toNat + 1 by omega,stR]
def stS (ps:List Int) (n:Int):List Int:=stR ps ps.length n (List.replicate ps.length 0)
theorem place_ne {ps:List Int} {i:Nat} (h:ps.any badP = false) (hi:i < ps.length):2 ≤ ps.getD i 0 ∧ ps.getD i 0 ≤ 8:=by
  have h1:=getD_mem (d:=(0:Int)) hi
  have h2:badP (ps.getD i 0) = false:=by
    cases hb:badP (ps.getD i 0) with
    | false => rfl
    | true => rw [List.any_eq_true.2 ⟨_,h1,hb⟩] at h; cases h
  unfold badP wi at h2
  simp only [Bool.not_eq_false',Bool.and_eq_true,decide_eq_true_eq] at h2
  exact h2
def L_stL:Lay:={ slots:=[(0,.adr (.pair (.pair tIs (.sl (.pair tI (.pair tI (.pair tI tV))))) (.pair (.arr (.int .i8) 12288) (.pair (.arr .bool 4096) tI)))),(1,.val tI),(5,.row 3 tI),(6,.val tI)] }
def L_stL_0:Lay:={ slots:=[(5,.row 3 tI)] }
def X_stL:Exit → St → Option Lay
  | .exit 0,_ => some L_stL_0
  | _,_ => none
abbrev C_stL:Code:=loopC (bodyOf Try.f44) 0
theorem B_stL (ps:List Int) (bs:List (Int × (Int × (Int × V)))) (tk:List Int) (sf:List Bool) (mn n:Int) (r:List Int) (i:Int):loopBodyA (P:=P) [] (lpOf []) [] 45 noU (inner C_stL) L_stL X_stL (α:=((List Int × List (Int × (Int × (Int × V)))) × (List Int × (List Bool × Int))) × Int × List Int × Int × Unit) (fun x => x) (fun x => x) (((ps,bs),(tk,(sf,mn))),n,r,i,()) =
  Tree.cond (decide (i ≥ (0:Int))) (.need ((0:Int) ≤ i ∧ i < (ps.length:Int)) (.need (List.getD ps (Int.toNat i) (0:Int) ≠ (0:Int)) (.need ((0:Int) ≤ i ∧ i < (r.length:Int)) (.need (Int.toNat i < List.length r) (.need ((0:Int) ≤ i ∧ i < (ps.length:Int)) (.need (List.getD ps (Int.toNat i) (0:Int) ≠ (0:Int)) (.leaf (Sum.inl (((ps,bs),tk,sf,mn),IntKind.i64.wrap (Int.tdiv n (List.getD ps (Int.toNat i) (0:Int))),List.set r (Int.toNat i) (Int.tmod n (List.getD ps (Int.toNat i) (0:Int))),IntKind.i64.wrap (i - (1:Int)),()))))))))) (.leaf (Sum.inr (Exit.exit (0:Nat),Lay.st L_stL_0 noU (r,())))):=by kernel_rfl
def inv_stL:((List Int × List (Int × (Int × (Int × V)))) × (List Int × (List Bool × Int))) × Int × List Int × Int × Unit → Prop:=fun (((ps,bs),(tk,(sf,mn))),n,r,i,()) => -1 ≤ i ∧ i < ps.length ∧ (ps.length:Int) ≤ 1000 ∧ r.length = ps.length ∧ ps.any badP = false
def O_stL:((List Int × List (Int × (Int × (Int × V)))) × (List Int × (List Bool × Int))) × Int × List Int × Int × Unit → Tree (Exit × St):=fun (((ps,bs),(tk,(sf,mn))),n,r,i,()) => (.leaf (.exit 0,L_stL_0.st noU ((stR ps (i + 1).toNat n r),())))
def R_stL:LRun:=runOf 45 L_stL (fun x => x) (inv_stL) (O_stL)
theorem K_stL:LoopOk P [] 45 none noU C_stL (R_stL):=by
  refine loop_of hm (cx:=[]) [] (xl:=X_stL) (α:=((List Int × List (Int × (Int × (Int × V)))) × (List Int × (List Bool × Int))) × Int × List Int × Int × Unit) (fun x => x) (fun (((ps,bs),(tk,(sf,mn))),n,r,i,()) => (i + 1).toNat) (fun _ => rfl) (by kernel_rfl) (by kernel_rfl) ?_ (by kernel_rfl) trivial ?_
  · intro e S L' h
    unfold X_stL at h
    split at h <;> first | (cases h; done) | (cases h; kernel_rfl) | (rcases bif_some h with h | h <;> cases h <;> kernel_rfl)
  · rintro ⟨⟨⟨ps,bs⟩,⟨tk,⟨sf,mn⟩⟩⟩,n,r,i,⟨⟩⟩ hinv Q hQ
    refine hold_of_eq (B_stL ps bs tk sf mn n r i) ?_
    obtain ⟨h0,h1,h2,h3,h4⟩:=hinv
    have hQ' : Q (.exit 0,L_stL_0.st noU (stR ps (i + 1).toNat n r,())):=hQ
    refine ⟨fun c1 => ?_,fun c1 => ?_⟩
    · have d1:0 ≤ i:=of_decide_eq_true c1
      have hm:(i - 1 + 1).toNat < (i + 1).toNat:=by omega
      have b1:=(place_ne (i:=i.toNat) h4 (by omega)).1
      have b2:ps.getD i.toNat 0 ≠ 0:=by omega
      rw [W_id (n:=i - 1) (by omega) (by omega)]
      rw [stR_step d1,show i.toNat = (i - 1 + 1).toNat by omega] at hQ'
      refine ⟨⟨d1,h1⟩,b2,⟨d1,by omega⟩,by omega,⟨d1,h1⟩,b2,⟨⟨by omega,by omega,h2,by rw [List.length_set]; exact h3,h4⟩,hm⟩,?_⟩
      have e:i.toNat = (i - 1 + 1).toNat:=by omega
      rw [e]
      exact hQ'
    · have d1:¬ i ≥ 0:=of_decide_eq_false c1
      rw [show (i + 1).toNat = 0 by omega] at hQ'
      exact hQ'
def L_state:Lay:={ slots:=[(0,.adr (.pair (.pair tIs (.sl (.pair tI (.pair tI (.pair tI tV))))) (.pair (.arr (.int .i8) 12288) (.pair (.arr .bool 4096) tI)))),(1,.val tI)] }
theorem T_state (ps:List Int) (bs:List (Int × (Int × (Int × V)))) (tk:List Int) (sf:List Bool) (mn n:Int):mTree (P:=P) [] (lpOf [(0,R_stL)]) Try.f44 L_state true (((ps,bs),(tk,(sf,mn))),n,()) =
  Tree.need ((0:Int) ≤ (ps.length:Int) ∧ (ps.length:Int) = (ps.length:Int) ∧ (ps.length:Int) ≤ (70368744177664:Int) ∧ (↑(8:Nat):Int) * (ps.length:Int) ≤ (140737488355328:Int)) (.need (inv_stL (((ps,bs),tk,sf,mn),n,List.replicate (Int.toNat (ps.length:Int)) (0:Int),IntKind.i64.wrap ((↑(List.length (List.replicate (Int.toNat (ps.length:Int)) (0:Int))):Int) - (1:Int)),())) (.leaf { res:=SV.own (nat_lit 100),boxes:=[],news:=[Ob.row (3:TypeId) tI (stR ps (Int.toNat (IntKind.i64.wrap ((↑(List.length (List.replicate (Int.toNat (ps.length:Int)) (0:Int))):Int) - (1:Int)) + (1:Int))) n (List.replicate (Int.toNat (ps.length:Int)) (0:Int)))] })):=by kernel_rfl
def c_state:XC P:=XC.of (α:=((List Int × List (Int × (Int × (Int × V)))) × (List Int × (List Bool × Int))) × Int × Unit) 44 L_state (fun x => x) (fun x => x) (fun _ => rfl)
  (fun x => some (x.1.1.1.length ≤ 1000 ∧ x.1.1.1.any badP = false))
  (fun x => ⟨.own 100,[],[.row 3 tI (stS x.1.1.1 x.2.1)]⟩) (by kernel_rfl) (by kernel_rfl) (by
    rintro ⟨⟨⟨ps,bs⟩,⟨tk,⟨sf,mn⟩⟩⟩,n,⟨⟩⟩ hp
    refine m_of hm (own:=true) (by kernel_rfl) (by kernel_rfl) (by kernel_rfl) (T_state ps bs tk sf mn n) ⟨K_stL,trivial⟩ ?_
    try dsimp only at hp
    try dsimp only
    obtain ⟨p1,p2⟩ : ps.length ≤ 1000 ∧ ps.any badP = false:=hp
    simp only [List.length_replicate,Int.toNat_natCast]
    rw [W_id (n:=(ps.length:Int) - 1) (by omega) (by omega)]
    refine ⟨⟨by omega,trivial,by omega,by omega⟩,⟨by omega,by omega,by omega,List.length_replicate,p2⟩,?_⟩
    have e:((ps.length:Int) - 1 + 1).toNat = ps.length:=by omega
    rw [e]
    rfl)
end
end Go.MR
