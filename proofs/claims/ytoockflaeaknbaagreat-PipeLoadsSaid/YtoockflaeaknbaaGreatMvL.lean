/- The laws PipeBends, PipeWeighs, PipeChecks, PipePieces. -/
import Derived.Test.YtoockflaeaknbaaGreatMvK
import Derived.Test.YtoockflaeaknbaaGreatFw4
namespace Go.MP
open Go Go.Sx Go.Proofs
set_option linter.unusedVariables false
set_option linter.unusedSimpArgs false
noncomputable section
theorem T_big (l_0:List Tb) (p_0 p_1 p_2:Int) (p_3:List V):fnTree (P:=P) [c_BigPath.gc] (lpOf []) Tryz.f5 (encL 0 [.agg tTs,.agg (.pair tV tVs)] (l_0,((p_0,(p_1,p_2)),p_3),())) =
  Tree.cond (decide ((l_0.length:Int) > (10:Int))) (.leaf (SV.bool true)) (.leaf (SV.bool (decide ((p_3.length:Int) > (24:Int))))):=by kernel_rfl
def c_big:PC P:=PC.of (α:=List Tb × (V × List V) × Unit) 5 [.agg tTs,.agg (.pair tV tVs)] (fun x => x) (fun x => x) (fun _ => rfl)
  (fun _ => none)
  (fun x => .bool (decide ((x.1.length:Int) > 10) || decide ((x.2.1.2.length:Int) > 24))) (by kernel_rfl) (by
    rintro ⟨l_0,⟨⟨p_0,⟨p_1,p_2⟩⟩,p_3⟩,⟨⟩⟩ hp
    refine fn_of hm (by kernel_rfl) (by kernel_rfl) (T_big l_0 p_0 p_1 p_2 p_3) trivial ?_
    try dsimp only at hp
    try dsimp only
    refine ⟨fun h => ?_,fun h => ?_⟩
    · rw [h,Bool.true_or]; exact rfl
    · rw [h,Bool.false_or]; exact rfl)
def L_OwnString:Lay:={ slots:=[(0,.agg tTs)] }
theorem T_OwnString (l_0:List Tb):mTree (P:=P) [] (lpOf []) Tryz.f11 L_OwnString true (l_0,()) =
  Tree.need (((0:Nat) + List.length l_0) * (72:Nat) ≤ (140737488355328:Nat)) (.leaf { res:=SV.agg [SV.own (nat_lit 100)],boxes:=[],news:=[Ob.row (78:Nat) (Ty.pair (Ty.int IntKind.i64) (Ty.pair (Ty.int IntKind.i64) (Ty.pair (Ty.int IntKind.i64) (Ty.pair (Ty.int IntKind.i64) (Ty.pair (Ty.int IntKind.i64) (Ty.pair (Ty.int IntKind.i64) (Ty.pair (Ty.int IntKind.i64) (Ty.pair (Ty.int IntKind.i64) (Ty.int IntKind.i64))))))))) l_0] }):=by kernel_rfl
def c_OwnString:XC P:=XC.of (α:=List Tb × Unit) 11 L_OwnString (fun x => x) (fun x => x) (fun _ => rfl)
  (fun x => some ((x.1.length:Int) < 1000000))
  (fun x => ⟨.agg [.own 100],[],[.row 78 tT x.1]⟩) (by kernel_rfl) (by kernel_rfl) (by
    rintro ⟨l_0,⟨⟩⟩ hp
    refine m_of hm (own:=true) (by kernel_rfl) (by kernel_rfl) (by kernel_rfl) (T_OwnString l_0) trivial ?_
    try dsimp only at hp
    try dsimp only
    have hp' : (l_0.length:Int) < 1000000:=hp
    exact ⟨by omega,rfl⟩)
def L_rSameL:Lay:={ slots:=[(2,.ptr 3031 0),(3,.ptr 4031 0),(5,.val tI)],boxes:=[(3031,[.val tTs]),(4031,[.val tTs])] }
def L_rSameL_0:Lay:={ slots:=[(4,.val .bool)] }
def L_rSameL_1:Lay:={ slots:=[] }
def X_rSameL:Exit → St → Option Lay
  | .ret,_ => some L_rSameL_0
  | .exit 0,_ => some L_rSameL_1
  | _,_ => none
abbrev C_rSameL:Code:=loopC (bodyOf Tryz.f17) 0
theorem B_rSameL (i:Int) (a_0 b_0:List Tb):loopBodyA (P:=P) [] (lpOf []) [] 31 noU (inner C_rSameL) L_rSameL X_rSameL (α:=Unit × Unit × Int × List Tb × List Tb × Unit) (fun x => x) (fun x => x) ((),(),i,a_0,b_0,()) =
  Tree.cond (decide (i < (a_0.length:Int))) (.need ((0:Int) ≤ i ∧ i < (a_0.length:Int)) (.need ((0:Int) ≤ i ∧ i < (b_0.length:Int)) (.cond (!((List.getD a_0 (Int.toNat i) (0,0,0,0,0,0,0,0,0)).fst == (List.getD b_0 (Int.toNat i) (0,0,0,0,0,0,0,0,0)).fst && ((List.getD a_0 (Int.toNat i) (0,0,0,0,0,0,0,0,0)).snd.fst == (List.getD b_0 (Int.toNat i) (0,0,0,0,0,0,0,0,0)).snd.fst && ((List.getD a_0 (Int.toNat i) (0,0,0,0,0,0,0,0,0)).snd.snd.fst == (List.getD b_0 (Int.toNat i) (0,0,0,0,0,0,0,0,0)).snd.snd.fst && ((List.getD a_0 (Int.toNat i) (0,0,0,0,0,0,0,0,0)).snd.snd.snd.fst == (List.getD b_0 (Int.toNat i) (0,0,0,0,0,0,0,0,0)).snd.snd.snd.fst && ((List.getD a_0 (Int.toNat i) (0,0,0,0,0,0,0,0,0)).snd.snd.snd.snd.fst == (List.getD b_0 (Int.toNat i) (0,0,0,0,0,0,0,0,0)).snd.snd.snd.snd.fst && ((List.getD a_0 (Int.toNat i) (0,0,0,0,0,0,0,0,0)).snd.snd.snd.snd.snd.fst == (List.getD b_0 (Int.toNat i) (0,0,0,0,0,0,0,0,0)).snd.snd.snd.snd.snd.fst && ((List.getD a_0 (Int.toNat i) (0,0,0,0,0,0,0,0,0)).snd.snd.snd.snd.snd.snd.fst == (List.getD b_0 (Int.toNat i) (0,0,0,0,0,0,0,0,0)).snd.snd.snd.snd.snd.snd.fst && ((List.getD a_0 (Int.toNat i) (0,0,0,0,0,0,0,0,0)).snd.snd.snd.snd.snd.snd.snd.fst == (List.getD b_0 (Int.toNat i) (0,0,0,0,0,0,0,0,0)).snd.snd.snd.snd.snd.snd.snd.fst && ((List.getD a_0 (Int.toNat i) (0,0,0,0,0,0,0,0,0)).snd.snd.snd.snd.snd.snd.snd.snd == (List.getD b_0 (Int.toNat i) (0,0,0,0,0,0,0,0,0)).snd.snd.snd.snd.snd.snd.snd.snd && true)))))))))) (.leaf (Sum.inr (Exit.ret,Lay.st L_rSameL_0 noU (false,())))) (.leaf (Sum.inl ((),(),IntKind.i64.wrap (i + (1:Int)),a_0,b_0,())))))) (.leaf (Sum.inr (Exit.exit (0:Nat),Lay.st L_rSameL_1 noU ()))):=by kernel_rfl
def inv_rSameL:Unit × Unit × Int × List Tb × List Tb × Unit → Prop:=fun ((),(),i,a_0,b_0,()) => 0 ≤ i ∧ i ≤ a_0.length ∧ a_0 = b_0 ∧ (a_0.length:Int) < 2 ^ 62
def O_rSameL:Unit × Unit × Int × List Tb × List Tb × Unit → Tree (Exit × St):=fun ((),(),i,a_0,b_0,()) => (.leaf (.exit 0,L_rSameL_1.st noU ()))
def R_rSameL:LRun:=runOf 31 L_rSameL (fun x => x) (inv_rSameL) (O_rSameL)
theorem K_rSameL:LoopOk P [] 31 none noU C_rSameL (R_rSameL):=by
  refine loop_of hm (cx:=[]) [] (xl:=X_rSameL) (α:=Unit × Unit × Int × List Tb × List Tb × Unit) (fun x => x) (fun ((),(),i,a_0,b_0,()) => (a_0.length - i).toNat) (fun _ => rfl) (by kernel_rfl) (by kernel_rfl) ?_ (by kernel_rfl) trivial ?_
  · intro e S L' h
    unfold X_rSameL at h
    split at h <;> first | (cases h; done) | (cases h; kernel_rfl) | (rcases bif_some h with h | h <;> cases h <;> kernel_rfl)
  · rintro ⟨⟨⟩,⟨⟩,i,a_0,b_0,⟨⟩⟩ hinv Q hQ
    refine hold_of_eq (B_rSameL i a_0 b_0) ?_
    obtain ⟨h0,h1,rfl,h2⟩:=hinv
    rw [W_id (n:=i + 1) (by omega) (by omega)]
    refine ⟨fun c1 => ?_,fun c1 => hQ⟩
    have c1:=of_decide_eq_true c1
    exact ⟨⟨h0,c1⟩,⟨h0,c1⟩,fun c2 => absurd c2 (by simp),fun c2 => ⟨⟨⟨by omega,by omega,rfl,h2⟩,by show ((a_0.length:Int) - (i + 1)).toNat < ((a_0.length:Int) - i).toNat; omega⟩,hQ⟩⟩
theorem T_rSame (a_0 b_0:List Tb):fnTree (P:=P) [] (lpOf [(0,R_rSameL)]) Tryz.f17 (encL 0 [.agg tTs,.agg tTs] (a_0,b_0,())) =
  Tree.cond ((a_0.length:Int) != (b_0.length:Int)) (.leaf (SV.bool false)) (.need (inv_rSameL ((),(),(0:Int),a_0,b_0,())) (.leaf (SV.bool true))):=by kernel_rfl
def c_rSame:PC P:=PC.of (α:=List Tb × List Tb × Unit) 17 [.agg tTs,.agg tTs] (fun x => x) (fun x => x) (fun _ => rfl)
  (fun x => some (x.1 = x.2.1 ∧ (x.1.length:Int) < 2 ^ 62))
  (fun x => .bool true) (by kernel_rfl) (by
    rintro ⟨a_0,b_0,⟨⟩⟩ hp
    refine fn_of hm (by kernel_rfl) (by kernel_rfl) (T_rSame a_0 b_0) ⟨K_rSameL,trivial⟩ ?_
    try dsimp only at hp
    try dsimp only
    obtain ⟨rfl,h1⟩ : a_0 = b_0 ∧ (a_0.length:Int) < 2 ^ 62:=hp
    exact ⟨fun c => absurd c (by simp),fun _ => ⟨⟨by decide,by omega,rfl,h1⟩,rfl⟩⟩)
theorem tubeS_few {ks:List K2} {L:Int} (hd:Down ks L) (i:Int) {top to:Int} (h0:0 ≤ top) (hL:to ≤ L) (ht:top ≤ to):((tubeS ks i top to).length:Int) ≤ to - top:=tubeS_len hd i h0 _ to (Nat.le_refl _) hL ht
theorem pcsL_len {ks:List K2} {L:Int} (hd:Down ks L) (l:List Tb):AllF l → ∀ i to:Int,sumT l ≤ to → to ≤ L → ((pcsL ks i to l).length:Int) ≤ to:=by
  induction l with
  | nil => intro _ i to h _; simp [pcsL,sumT] at *; exact h
  | cons t r ih =>
    intro h i to h1 h2
    have hp:=(h t (by simp)).prod
    have hr:=(sumT_rng r fun u hu => h u (by simp [hu])).1
    rw [sumT] at h1
    have h3:=ih (fun u hu => h u (by simp [hu])) (i + 1) (to - t.1 * t.2.1) (by omega) (by omega)
    have h4:=tubeS_few hd i (show 0 ≤ to - t.1 * t.2.1 by omega) h2 (by omega)
    rw [pcsL,List.length_append]
    omega
theorem pcsS_len (l:List Tb) (p:Pth):((pcsS l p).length:Int) < 2 ^ 62:=by
  unfold pcsS
  split
  · rename_i h
    obtain ⟨h1,h2,h3⟩:=fitsS_ok h
    obtain ⟨_,_,h4,h5⟩:=checkT_ok h1
    have:=pcsL_len (fits_down h) l h4 0 (sumT l) (Int.le_refl _) h3
    omega
  · decide
end
end Go.MP
