/- Barrier's examples. -/
import Derived.Test.YtfhomgggbhjglaaGreatMeE
import Derived.Test.YtfhomgggbhjglaaGreatMdE
import Derived.Test.YtfhomgggbhjglaaGreatFw4
namespace Go.MB
open Go Go.Sx Go.Proofs
set_option linter.unusedVariables false
set_option linter.unusedSimpArgs false
noncomputable section
def L_SameMvL:Lay:={ slots:=[(0,.val (.sl tIs)),(1,.val (.sl tIs)),(5,.val tI)] }
def L_SameMvL_0:Lay:={ slots:=[(4,.val .bool)] }
def L_SameMvL_1:Lay:={ slots:=[] }
def X_SameMvL:Exit → St → Option Lay
  | .ret,_ => some L_SameMvL_0
  | .exit 0,_ => some L_SameMvL_1
  | _,_ => none
abbrev C_SameMvL:Code:=loopC (bodyOf Tryz.f42) 0
theorem B_SameMvL (a b:List (List Int)) (i:Int):loopBodyA (P:=P) [c_SameInts.gc] (lpOf []) [] 27 noU (inner C_SameMvL) L_SameMvL X_SameMvL (α:=List (List Int) × List (List Int) × Int × Unit) (fun x => x) (fun x => x) (a,b,i,()) =
  Tree.cond (decide (i < (a.length:Int))) (.need ((0:Int) ≤ i ∧ i < (a.length:Int)) (.need ((0:Int) ≤ i ∧ i < (b.length:Int)) (.need (List.getD a (Int.toNat i) [] = List.getD b (Int.toNat i) [] ∧ (↑(List.length (List.getD a (Int.toNat i) [])):Int) < (2:Int) ^ (62:Nat)) (.cond false (.leaf (Sum.inr (Exit.ret,Lay.st L_SameMvL_0 noU (false,())))) (.leaf (Sum.inl (a,b,IntKind.i64.wrap (i + (1:Int)),()))))))) (.leaf (Sum.inr (Exit.exit (0:Nat),Lay.st L_SameMvL_1 noU ()))):=by kernel_rfl
def inv_SameMvL:List (List Int) × List (List Int) × Int × Unit → Prop:=fun (a,b,i,()) => 0 ≤ i ∧ i ≤ a.length ∧ a = b ∧ (a.length:Int) < 2 ^ 62 ∧ ∀ x ∈ a,(x.length:Int) < 2 ^ 62
def O_SameMvL:List (List Int) × List (List Int) × Int × Unit → Tree (Exit × St):=fun (a,b,i,()) => (.leaf (.exit 0,L_SameMvL_1.st noU ()))
def R_SameMvL:LRun:=runOf 27 L_SameMvL (fun x => x) (inv_SameMvL) (O_SameMvL)
theorem K_SameMvL:LoopOk P [] 27 none noU C_SameMvL (R_SameMvL):=by
  refine loop_of hm (cx:=[c_SameInts.gc]) [] (xl:=X_SameMvL) (α:=List (List Int) × List (List Int) × Int × Unit) (fun x => x) (fun (a,b,i,()) => (a.length - i).toNat) (fun _ => rfl) (by kernel_rfl) (by kernel_rfl) ?_ (by kernel_rfl) trivial ?_
  · intro e S L' h
    unfold X_SameMvL at h
    split at h <;> first | (cases h; done) | (cases h; kernel_rfl) | (rcases bif_some h with h | h <;> cases h <;> kernel_rfl)
  · rintro ⟨a,b,i,⟨⟩⟩ hinv Q hQ
    refine hold_of_eq (B_SameMvL a b i) ?_
    obtain ⟨h0,h1,rfl,h2,h3⟩:=hinv
    rw [W_id (n:=i + 1) (by omega) (by omega)]
    refine ⟨fun c1 => ?_,fun c1 => hQ⟩
    have c1:=of_decide_eq_true c1
    exact ⟨⟨h0,c1⟩,⟨h0,c1⟩,⟨rfl,h3 _ (getD_mem (d:=([] : List Int)) (show i.toNat < a.length by omega))⟩,fun c2 => (by cases c2),fun c2 => ⟨⟨⟨by omega,by omega,rfl,h2,h3⟩,by show ((a.length:Int) - (i + 1)).toNat < ((a.length:Int) - i).toNat; omega⟩,hQ⟩⟩
theorem T_SameMoves (a b:List (List Int)):fnTree (P:=P) [] (lpOf [(0,R_SameMvL)]) Tryz.f42 (encL 0 [.val (.sl tIs),.val (.sl tIs)] (a,b,())) =
  Tree.cond ((a.length:Int) != (b.length:Int)) (.leaf (SV.bool false)) (.need (inv_SameMvL (a,b,(0:Int),())) (.leaf (SV.bool true))):=by kernel_rfl
def c_SameMoves:PC P:=PC.of (α:=List (List Int) × List (List Int) × Unit) 42 [.val (.sl tIs),.val (.sl tIs)] (fun x => x) (fun x => x) (fun _ => rfl)
  (fun x => some (x.1 = x.2.1 ∧ (x.1.length:Int) < 2 ^ 62 ∧ ∀ y ∈ x.1,(y.length:Int) < 2 ^ 62))
  (fun x => .bool true) (by kernel_rfl) (by
    rintro ⟨a,b,⟨⟩⟩ hp
    refine fn_of hm (by kernel_rfl) (by kernel_rfl) (T_SameMoves a b) ⟨K_SameMvL,trivial⟩ ?_
    try dsimp only at hp
    try dsimp only
    obtain ⟨rfl,h1,h2⟩ : a = b ∧ (a.length:Int) < 2 ^ 62 ∧ ∀ x ∈ a,(x.length:Int) < 2 ^ 62:=hp
    exact ⟨fun c1 => absurd c1 (by simp),fun c1 => ⟨⟨by decide,by omega,rfl,h1,h2⟩,rfl⟩⟩)
def c_flagE:GC P where
  f:=2
  con:=fun args _ _ => match args with
    | [.int .i64 23] => some { need:=some False,res:=.any }
    | _ => none
  ent:=by kernel_rfl
  ok:=by
    intro args H base eff h E U w vals _ _ _ hn
    dsimp only at h
    split at h
    · cases h; exact hn.elim
    · cases h
def L_shownR:Lay:={ slots:=[] }
theorem T_shownR (_:Unit):mTree (P:=P) [c_flagE] (lpOf []) Tryz.f44 L_shownR true () =
  Tree.leaf { res:=SV.agg [SV.own (nat_lit 100),SV.bsl (nat_lit 101) (4:Nat),SV.int IntKind.i64 (2:Int)],boxes:=[],news:=[Ob.row (47:Nat) (Ty.pair (Ty.int IntKind.i64) (Ty.pair (Ty.int IntKind.i64) (Ty.pair (Ty.int IntKind.i64) (Ty.int IntKind.i64)))) [((2:Int),(1000:Int),(0:Int),(100:Int)),((2:Int),(2000:Int),(0:Int),(100:Int)),((2:Int),(1500:Int),(0:Int),(50:Int)),((1:Int),(0:Int),(0:Int),(0:Int))],Ob.box [SV.sl (Ty.int IntKind.i64) [(0:Int),(1:Int)],SV.sl (Ty.int IntKind.i64) [(1:Int),(2:Int)],SV.sl (Ty.int IntKind.i64) [(2:Int)],SV.sl (Ty.int IntKind.i64) [(3:Int)]]] }:=by kernel_rfl
def c_shownR:MC P:=MC.of (α:=Unit) 44 L_shownR (fun x => x) (fun x => x) (fun _ => rfl)
  (fun _ => none)
  (fun x => ⟨.agg [.own 100,.bsl 101 4,.int .i64 2],[],[.row 47 tEl shownH.1,.box [.sl tI ([0,1] : List Int),.sl tI ([1,2] : List Int),.sl tI ([2] : List Int),.sl tI ([3] : List Int)]]⟩) (by kernel_rfl) (by kernel_rfl) (by kernel_rfl) (by
    rintro ⟨⟩ hp
    refine m_of hm (own:=true) (by kernel_rfl) (by kernel_rfl) (by kernel_rfl) (T_shownR ()) trivial ?_
    try dsimp only at hp
    try dsimp only
    exact rfl)
def shown2:Hs:=(shownH.1,[[0],[1,2],[2],[3]],2)
def cutX (h:Hs):List (List Int):=if h = shown2 then [[0],[2]] else [[0],[1],[2]]
theorem cut_1:cutsS shownH 10 1000 = [[0],[1],[2]]:=by
  rw [cuts_same]
  decide +kernel
theorem cut_2:cutsS shown2 10 1000 = [[0],[2]]:=by
  rw [cuts_same]
  decide +kernel
def c_CutsX:PC P:=PC.of (α:=Hs × Int × Int × Unit) 36 [.agg (.pair tEls (.pair (.sl tIs) tI)),.val tI,.val tI] (fun x => x) (fun x => x) (fun _ => rfl)
  (fun x => some (x = (shownH,10,1000,()) ∨ x = (shown2,10,1000,()))) (fun x => .sl tIs (cutX x.1)) (by kernel_rfl) (fun a h => by
    have h' : a = (shownH,10,1000,()) ∨ a = (shown2,10,1000,()):=h
    rcases h' with rfl | rfl
    · have:=c_Cuts.ok ((shownH,10,1000,()):Hs × Int × Int × Unit) ⟨by decide,by decide,by decide⟩
      rw [show SV.sl tIs (cutX shownH) = SV.sl tIs (cutsS shownH 10 1000) by rw [cut_1]; rfl]
      exact this
    · have:=c_Cuts.ok ((shown2,10,1000,()):Hs × Int × Int × Unit) ⟨by decide,by decide,by decide⟩
      rw [show SV.sl tIs (cutX shown2) = SV.sl tIs (cutsS shown2 10 1000) by rw [cut_2]; rfl]
      exact this)
def c_flagS:GC P where
  f:=2
  con:=fun args _ _ => match args with
    | [.nilp] => some { need:=some False,res:=.any }
    | [.int .i64 23] => some { need:=some False,res:=.any }
    | _ => none
  ent:=by kernel_rfl
  ok:=by
    intro args H base eff h E U w vals _ _ _ hn
    dsimp only at h
    split at h
    · cases h; exact hn.elim
    · cases h; exact hn.elim
    · cases h
def c_ProofL:GC P:=GC.box c_Proof
def c_LapseL:GC P:=GC.box c_Lapse
def c_StandL:GC P:=GC.box c_Standing
def c_CutsL:GC P:=GC.box c_CutsX
def c_SameL:GC P:=GC.box c_SameMoves
theorem T_BarrierKnown (_:Unit):collapse (fnTree (P:=P) [c_awake.gc,c_shownR.gc,c_ProofL,c_LapseL,c_StandL,c_SameInts.gc,c_CutsL,c_SameL,c_place.gc,c_Run.gc,c_DoX.gc,c_flagS] (lpOf []) Tryz.f9 (encL 0 [] ())) =
  Tree.need (hOk (shownH.fst,[[(0:Int),(1:Int)],[(1:Int),(2:Int)],[(2:Int)],[(3:Int)]],(2:Int))) (.need (hOk (shownH.fst,[[(0:Int),(1:Int)],[(1:Int),(2:Int)],[(2:Int)],[(3:Int)]],(2:Int))) (.need (hOk (shownH.fst,[[(0:Int),(1:Int)],[(1:Int),(2:Int)],[(2:Int)],[(3:Int)]],(2:Int))) (.need (hOk (shownH.fst,[[(0:Int),(1:Int)],[(1:Int),(2:Int)],[(2:Int)],[(3:Int)]],(2:Int))) (.need (stS (shownH.fst,[[(0:Int),(1:Int)],[(1:Int),(2:Int)],[(2:Int)],[(3:Int)]],(2:Int)) (10:Int) (1000:Int) = [(0:Int),(1:Int),(2:Int)] ∧ (↑(List.length (stS (shownH.fst,[[(0:Int),(1:Int)],[(1:Int),(2:Int)],[(2:Int)],[(3:Int)]],(2:Int)) (10:Int) (1000:Int))):Int) < (2:Int) ^ (62:Nat)) (.need (((shownH.fst,[[(0:Int),(1:Int)],[(1:Int),(2:Int)],[(2:Int)],[(3:Int)]],(2:Int)),(10:Int),(1000:Int),()) = (shownH,(10:Int),(1000:Int),()) ∨ ((shownH.fst,[[(0:Int),(1:Int)],[(1:Int),(2:Int)],[(2:Int)],[(3:Int)]],(2:Int)),(10:Int),(1000:Int),()) = (shown2,(10:Int),(1000:Int),())) (.need (cutX (shownH.fst,[[(0:Int),(1:Int)],[(1:Int),(2:Int)],[(2:Int)],[(3:Int)]],(2:Int)) = [[(0:Int)],[(1:Int)],[(2:Int)]] ∧ (↑(List.length (cutX (shownH.fst,[[(0:Int),(1:Int)],[(1:Int),(2:Int)],[(2:Int)],[(3:Int)]],(2:Int)))):Int) < (2:Int) ^ (62:Nat) ∧ ∀ (y:List Int),y ∈ cutX (shownH.fst,[[(0:Int),(1:Int)],[(1:Int),(2:Int)],[(2:Int)],[(3:Int)]],(2:Int)) → (y.length:Int) < (2:Int) ^ (62:Nat)) (.need ((0:Int) ≤ (0:Int) ∧ (0:Int) < (↑(4:Nat):Int)) (.need (hOk (shownH.fst,[[(0:Int)],[(1:Int),(2:Int)],[(2:Int)],[(3:Int)]],(2:Int))) (.need ((prS (shownH.fst,[[(0:Int)],[(1:Int),(2:Int)],[(2:Int)],[(3:Int)]],(2:Int)) (10:Int) (1000:Int)).fst = [(0:Int),(1:Int)] ∧ (↑(List.length (prS (shownH.fst,[[(0:Int)],[(1:Int),(2:Int)],[(2:Int)],[(3:Int)]],(2:Int)) (10:Int) (1000:Int)).fst):Int) < (2:Int) ^ (62:Nat)) (.need (((shownH.fst,[[(0:Int)],[(1:Int),(2:Int)],[(2:Int)],[(3:Int)]],(2:Int)),(10:Int),(1000:Int),()) = (shownH,(10:Int),(1000:Int),()) ∨ ((shownH.fst,[[(0:Int)],[(1:Int),(2:Int)],[(2:Int)],[(3:Int)]],(2:Int)),(10:Int),(1000:Int),()) = (shown2,(10:Int),(1000:Int),())) (.need (cutX (shownH.fst,[[(0:Int)],[(1:Int),(2:Int)],[(2:Int)],[(3:Int)]],(2:Int)) = [[(0:Int)],[(2:Int)]] ∧ (↑(List.length (cutX (shownH.fst,[[(0:Int)],[(1:Int),(2:Int)],[(2:Int)],[(3:Int)]],(2:Int)))):Int) < (2:Int) ^ (62:Nat) ∧ ∀ (y:List Int),y ∈ cutX (shownH.fst,[[(0:Int)],[(1:Int),(2:Int)],[(2:Int)],[(3:Int)]],(2:Int)) → (y.length:Int) < (2:Int) ^ (62:Nat)) (.need (sOk ((0:Int),(3:Int),(0:Int),(-1:Int),(1000:Int),(shownH.fst,shownH.snd.fst,(2:Int)),[],(-1:Int))) (.need (sOk ((0:Int),(3:Int),(0:Int),(-1:Int),(1000:Int),(shownH.fst,shownH.snd.fst,(2:Int)),[],(-1:Int)) ∧ (0:Nat) ≤ (900:Nat)) (.need (sOk ((0:Int),(3:Int),(0:Int),(-1:Int),(1000:Int),(shownH.fst,shownH.snd.fst,(2:Int)),[],(-1:Int)) ∧ (0:Nat) ≤ (900:Nat)) (.need (sOk (dS ((0:Int),(3:Int),(0:Int),(-1:Int),(1000:Int),(shownH.fst,shownH.snd.fst,(2:Int)),[],(-1:Int)) ((0:Int),(8:Int),(0:Int),(5:Int),(2:Int),(20:Int))).fst ∧ List.length (dS ((0:Int),(3:Int),(0:Int),(-1:Int),(1000:Int),(shownH.fst,shownH.snd.fst,(2:Int)),[],(-1:Int)) ((0:Int),(8:Int),(0:Int),(5:Int),(2:Int),(20:Int))).fst.snd.snd.snd.snd.snd.snd.fst ≤ (900:Nat)) (.need (sOk (dS ((0:Int),(3:Int),(0:Int),(-1:Int),(1000:Int),(shownH.fst,shownH.snd.fst,(2:Int)),[],(-1:Int)) ((0:Int),(8:Int),(0:Int),(5:Int),(2:Int),(20:Int))).fst ∧ List.length (dS ((0:Int),(3:Int),(0:Int),(-1:Int),(1000:Int),(shownH.fst,shownH.snd.fst,(2:Int)),[],(-1:Int)) ((0:Int),(8:Int),(0:Int),(5:Int),(2:Int),(20:Int))).fst.snd.snd.snd.snd.snd.snd.fst ≤ (900:Nat)) (.need ((0:Int) ≤ (0:Int) ∧ (0:Int) < (↑(List.length (dS (dS ((0:Int),(3:Int),(0:Int),(-1:Int),(1000:Int),(shownH.fst,shownH.snd.fst,(2:Int)),[],(-1:Int)) ((0:Int),(8:Int),(0:Int),(5:Int),(2:Int),(20:Int))).fst ((20:Int),(9:Int),(2:Int),(5:Int),(0:Int),(0:Int))).fst.snd.snd.snd.snd.snd.snd.fst):Int)) (.need (sOk (dS (dS ((0:Int),(3:Int),(0:Int),(-1:Int),(1000:Int),(shownH.fst,shownH.snd.fst,(2:Int)),[],(-1:Int)) ((0:Int),(8:Int),(0:Int),(5:Int),(2:Int),(20:Int))).fst ((20:Int),(9:Int),(2:Int),(5:Int),(0:Int),(0:Int))).fst ∧ List.length (dS (dS ((0:Int),(3:Int),(0:Int),(-1:Int),(1000:Int),(shownH.fst,shownH.snd.fst,(2:Int)),[],(-1:Int)) ((0:Int),(8:Int),(0:Int),(5:Int),(2:Int),(20:Int))).fst ((20:Int),(9:Int),(2:Int),(5:Int),(0:Int),(0:Int))).fst.snd.snd.snd.snd.snd.snd.fst ≤ (900:Nat)) (.need (sOk (dS (dS ((0:Int),(3:Int),(0:Int),(-1:Int),(1000:Int),(shownH.fst,shownH.snd.fst,(2:Int)),[],(-1:Int)) ((0:Int),(8:Int),(0:Int),(5:Int),(2:Int),(20:Int))).fst ((20:Int),(9:Int),(2:Int),(5:Int),(0:Int),(0:Int))).fst ∧ List.length (dS (dS ((0:Int),(3:Int),(0:Int),(-1:Int),(1000:Int),(shownH.fst,shownH.snd.fst,(2:Int)),[],(-1:Int)) ((0:Int),(8:Int),(0:Int),(5:Int),(2:Int),(20:Int))).fst ((20:Int),(9:Int),(2:Int),(5:Int),(0:Int),(0:Int))).fst.snd.snd.snd.snd.snd.snd.fst ≤ (900:Nat)) (.need (sOk (dS (dS (dS ((0:Int),(3:Int),(0:Int),(-1:Int),(1000:Int),(shownH.fst,shownH.snd.fst,(2:Int)),[],(-1:Int)) ((0:Int),(8:Int),(0:Int),(5:Int),(2:Int),(20:Int))).fst ((20:Int),(9:Int),(2:Int),(5:Int),(0:Int),(0:Int))).fst ((20:Int),(3:Int),(0:Int),(2:Int),(0:Int),(0:Int))).fst ∧ List.length (dS (dS (dS ((0:Int),(3:Int),(0:Int),(-1:Int),(1000:Int),(shownH.fst,shownH.snd.fst,(2:Int)),[],(-1:Int)) ((0:Int),(8:Int),(0:Int),(5:Int),(2:Int),(20:Int))).fst ((20:Int),(9:Int),(2:Int),(5:Int),(0:Int),(0:Int))).fst ((20:Int),(3:Int),(0:Int),(2:Int),(0:Int),(0:Int))).fst.snd.snd.snd.snd.snd.snd.fst ≤ (900:Nat)) (.need (sOk (dS (dS ((0:Int),(3:Int),(0:Int),(-1:Int),(1000:Int),(shownH.fst,shownH.snd.fst,(2:Int)),[],(-1:Int)) ((0:Int),(8:Int),(0:Int),(5:Int),(2:Int),(20:Int))).fst ((20:Int),(9:Int),(2:Int),(5:Int),(0:Int),(0:Int))).fst ∧ List.length (dS (dS ((0:Int),(3:Int),(0:Int),(-1:Int),(1000:Int),(shownH.fst,shownH.snd.fst,(2:Int)),[],(-1:Int)) ((0:Int),(8:Int),(0:Int),(5:Int),(2:Int),(20:Int))).fst ((20:Int),(9:Int),(2:Int),(5:Int),(0:Int),(0:Int))).fst.snd.snd.snd.snd.snd.snd.fst ≤ (900:Nat)) (.leaf (SV.bool true))))))))))))))))))))))):=by kernel_rfl
def c_BarrierKnown:PC P:=PC.of (α:=Unit) 9 [] (fun x => x) (fun x => x) (fun _ => rfl) (fun _ => none) (fun _ => .bool true) (by kernel_rfl) (by
    rintro ⟨⟩ hp
    refine fn_closed (by kernel_rfl) (by kernel_rfl) (T_BarrierKnown ()) trivial ?_
    exact ⟨⟨by decide +kernel,by decide +kernel,by decide +kernel⟩,⟨by decide +kernel,by decide +kernel,by decide +kernel⟩,⟨by decide +kernel,by decide +kernel,by decide +kernel⟩,⟨by decide +kernel,by decide +kernel,by decide +kernel⟩,⟨by decide +kernel,by decide +kernel⟩,.inl rfl,⟨by decide +kernel,by decide +kernel,by decide +kernel⟩,⟨by decide +kernel,by decide +kernel⟩,⟨by decide +kernel,by decide +kernel,by decide +kernel⟩,⟨by decide +kernel,by decide +kernel⟩,.inr rfl,⟨by decide +kernel,by decide +kernel,by decide +kernel⟩,⟨⟨by decide +kernel,by decide +kernel,by decide +kernel⟩,by decide +kernel⟩,⟨⟨⟨by decide +kernel,by decide +kernel,by decide +kernel⟩,by decide +kernel⟩,by decide +kernel⟩,⟨⟨⟨by decide +kernel,by decide +kernel,by decide +kernel⟩,by decide +kernel⟩,by decide +kernel⟩,⟨⟨⟨by decide +kernel,by decide +kernel,by decide +kernel⟩,by decide +kernel⟩,by decide +kernel⟩,⟨⟨⟨by decide +kernel,by decide +kernel,by decide +kernel⟩,by decide +kernel⟩,by decide +kernel⟩,⟨by decide +kernel,by decide +kernel⟩,⟨⟨⟨by decide +kernel,by decide +kernel,by decide +kernel⟩,by decide +kernel⟩,by decide +kernel⟩,⟨⟨⟨by decide +kernel,by decide +kernel,by decide +kernel⟩,by decide +kernel⟩,by decide +kernel⟩,⟨⟨⟨by decide +kernel,by decide +kernel,by decide +kernel⟩,by decide +kernel⟩,by decide +kernel⟩,⟨⟨⟨by decide +kernel,by decide +kernel,by decide +kernel⟩,by decide +kernel⟩,by decide +kernel⟩,rfl⟩)
end
end Go.MB
