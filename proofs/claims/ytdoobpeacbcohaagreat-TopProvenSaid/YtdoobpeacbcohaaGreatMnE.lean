/- Runs of entries, of the program alone. -/
import Derived.Test.YtdoobpeacbcohaaGreatMoAa
namespace Go.MB
open Go Go.Sx Go.Proofs
set_option linter.unusedVariables false
set_option linter.unusedSimpArgs false
noncomputable section
def runG:Site → List Entry → Int → Site × Int × Int
  | s,[],_ => (s,-1,0)
  | s,e :: r,i => if (doG s e).2 ≠ 0 then (s,i,(doG s e).2) else runG (doG s e).1 r (i + 1)
def runS (s:Site) (l:List Entry):Site × Int × Int:=if chkS s ≠ 0 then (zSite,0,chkS s) else if l.length > 200 then (zSite,0,8) else runG s l 0
abbrev resN (x:Site × Int × Int):SV:=.tup [.agg (siteA x.1),.int .i64 x.2.1,.int .i64 x.2.2]
theorem runG_step {s:Site} {l:List Entry} {i:Int} (h0:0 ≤ i) (h:i < l.length):runG s (l.drop i.toNat) i = if (doG s (l.getD i.toNat (0,0,0,0,0,0))).2 ≠ 0 then (s,i,(doG s (l.getD i.toNat (0,0,0,0,0,0))).2) else runG (doG s (l.getD i.toNat (0,0,0,0,0,0))).1 (l.drop (i + 1).toNat) (i + 1):=by
  rw [drop_step (0,0,0,0,0,0) h0 h,runG]
theorem runG_ok:∀ (l:List Entry) (s:Site) (i:Int),chkS s = 0 → chkS (runG s l i).1 = 0
  | [],s,i,h => h
  | e :: r,s,i,h => by
    rw [runG]
    split
    · exact h
    · rename_i c
      exact runG_ok r _ _ (do_ok h (Prod.ext rfl (Decidable.not_not.1 c))).1
theorem runG_end:∀ (l:List Entry) (s:Site) (i:Int),(runG s l i).2.2 = 0 → (runG s l i).2.1 = -1
  | [],s,i,h => rfl
  | e :: r,s,i,h => by
    rw [runG] at h ⊢
    split at h
    · rename_i c; exact absurd h c
    · rename_i c
      rw [if_neg c]
      exact runG_end r _ _ h
theorem leN_bad (n:Int):LeS (SV.tup [.agg [.int .i64 0,.int .i64 0,.int .i64 0,.int .i64 0,.int .i64 0,.nils,.nils,.int .i64 0,.nils,.int .i64 0],.int .i64 0,.int .i64 n]) (resN (zSite,0,n)):=⟨⟨rfl,rfl,rfl,rfl,rfl,rfl,rfl,rfl,rfl,rfl,trivial⟩,rfl,rfl,trivial⟩
theorem leN_good (x:Site × Int × Int):LeS (resN x) (resN x):=⟨⟨rfl,rfl,rfl,rfl,rfl,rfl,rfl,rfl,rfl,rfl,trivial⟩,rfl,rfl,trivial⟩
def L_run0:Lay:={ slots:=[(2,.ptr 3045 0),(4,.ptr 5045 0),(24,.val (.sl (.pair tI (.pair tI (.pair tI tV))))),(25,.val tI),(26,.val tI)],boxes:=[(3045,[.val tI,.val tI,.val tI,.val tI,.val tI,.val (.sl (.pair tI tV)),.val (.sl tIs),.val tI,.val (.sl (.pair tI (.pair tI (.pair tI .bool)))),.val tI]),(5045,[.val tI,.val tI,.val tI,.val tI,.val tI,.val (.sl (.pair tI tV)),.val (.sl tIs),.val tI,.val (.sl (.pair tI (.pair tI (.pair tI .bool)))),.val tI])] }
def L_run0_0:Lay:={ slots:=[(4,.ptr 5045 0),(5,.val tI),(6,.val tI)],boxes:=[(5045,[.val tI,.val tI,.val tI,.val tI,.val tI,.val (.sl (.pair tI tV)),.val (.sl tIs),.val tI,.val (.sl (.pair tI (.pair tI (.pair tI .bool)))),.val tI])] }
def L_run0_1:Lay:={ slots:=[(2,.ptr 3045 0),(4,.ptr 5045 0)],boxes:=[(3045,[.val tI,.val tI,.val tI,.val tI,.val tI,.val (.sl (.pair tI tV)),.val (.sl tIs),.val tI,.val (.sl (.pair tI (.pair tI (.pair tI .bool)))),.val tI]),(5045,[.val tI,.val tI,.val tI,.val tI,.val tI,.val (.sl (.pair tI tV)),.val (.sl tIs),.val tI,.val (.sl (.pair tI (.pair tI (.pair tI .bool)))),.val tI])] }
def X_run0:Exit → St → Option Lay
  | .ret,_ => some L_run0_0
  | .exit 0,_ => some L_run0_1
  | _,_ => none
abbrev C_run0:Code:=loopC (bodyOf Tryz.f7) 0
theorem B_run0 (l:List (Int × (Int × (Int × V)))) (n i x0 x1 x2 x3 x4:Int) (x5:List (Int × V)) (x6:List (List Int)) (x7:Int) (x8:List (Int × (Int × (Int × Bool)))) (x9 y0 y1 y2 y3 y4:Int) (y5:List (Int × V)) (y6:List (List Int)) (y7:Int) (y8:List (Int × (Int × (Int × Bool)))) (y9:Int):loopBodyA (P:=P) [c_doX.gc] (lpOf []) [] 45 noU (inner C_run0) L_run0 X_run0 (α:=Unit × Unit × List (Int × (Int × (Int × V))) × Int × Int × Int × Int × Int × Int × Int × List (Int × V) × List (List Int) × Int × List (Int × (Int × (Int × Bool))) × Int × Int × Int × Int × Int × Int × List (Int × V) × List (List Int) × Int × List (Int × (Int × (Int × Bool))) × Int × Unit) (fun x => x) (fun x => x) ((),(),l,n,i,x0,x1,x2,x3,x4,x5,x6,x7,x8,x9,y0,y1,y2,y3,y4,y5,y6,y7,y8,y9,()) =
  Tree.cond (decide (i < n)) (.need ((0:Int) ≤ i ∧ i < (l.length:Int)) (.need (sOk (x0,x1,x2,x3,x4,(x5,x6,x7),x8,x9) ∧ houseE (x5,x6,x7) = (0:Int) ∧ List.length x8 ≤ (900:Nat)) (.cond ((doG (x0,x1,x2,x3,x4,(x5,x6,x7),x8,x9) (List.getD l (Int.toNat i) (0,0,0,0,0,0))).snd != (0:Int)) (.leaf (Sum.inr (Exit.ret,Lay.st L_run0_0 noU ((),i,(doG (x0,x1,x2,x3,x4,(x5,x6,x7),x8,x9) (List.getD l (Int.toNat i) (0,0,0,0,0,0))).snd,x0,x1,x2,x3,x4,x5,x6,x7,x8,x9,())))) (.leaf (Sum.inl ((),(),l,n,IntKind.i64.wrap (i + (1:Int)),(doG (x0,x1,x2,x3,x4,(x5,x6,x7),x8,x9) (List.getD l (Int.toNat i) (0,0,0,0,0,0))).fst.fst,(doG (x0,x1,x2,x3,x4,(x5,x6,x7),x8,x9) (List.getD l (Int.toNat i) (0,0,0,0,0,0))).fst.snd.fst,(doG (x0,x1,x2,x3,x4,(x5,x6,x7),x8,x9) (List.getD l (Int.toNat i) (0,0,0,0,0,0))).fst.snd.snd.fst,(doG (x0,x1,x2,x3,x4,(x5,x6,x7),x8,x9) (List.getD l (Int.toNat i) (0,0,0,0,0,0))).fst.snd.snd.snd.fst,(doG (x0,x1,x2,x3,x4,(x5,x6,x7),x8,x9) (List.getD l (Int.toNat i) (0,0,0,0,0,0))).fst.snd.snd.snd.snd.fst,(doG (x0,x1,x2,x3,x4,(x5,x6,x7),x8,x9) (List.getD l (Int.toNat i) (0,0,0,0,0,0))).fst.snd.snd.snd.snd.snd.fst.fst,(doG (x0,x1,x2,x3,x4,(x5,x6,x7),x8,x9) (List.getD l (Int.toNat i) (0,0,0,0,0,0))).fst.snd.snd.snd.snd.snd.fst.snd.fst,(doG (x0,x1,x2,x3,x4,(x5,x6,x7),x8,x9) (List.getD l (Int.toNat i) (0,0,0,0,0,0))).fst.snd.snd.snd.snd.snd.fst.snd.snd,(doG (x0,x1,x2,x3,x4,(x5,x6,x7),x8,x9) (List.getD l (Int.toNat i) (0,0,0,0,0,0))).fst.snd.snd.snd.snd.snd.snd.fst,(doG (x0,x1,x2,x3,x4,(x5,x6,x7),x8,x9) (List.getD l (Int.toNat i) (0,0,0,0,0,0))).fst.snd.snd.snd.snd.snd.snd.snd,y0,y1,y2,y3,y4,y5,y6,y7,y8,y9,())))))) (.leaf (Sum.inr (Exit.exit (0:Nat),Lay.st L_run0_1 noU ((),(),x0,x1,x2,x3,x4,x5,x6,x7,x8,x9,y0,y1,y2,y3,y4,y5,y6,y7,y8,y9,())))):=by kernel_rfl
def inv_run0:Unit × Unit × List (Int × (Int × (Int × V))) × Int × Int × Int × Int × Int × Int × Int × List (Int × V) × List (List Int) × Int × List (Int × (Int × (Int × Bool))) × Int × Int × Int × Int × Int × Int × List (Int × V) × List (List Int) × Int × List (Int × (Int × (Int × Bool))) × Int × Unit → Prop:=fun ((),(),l,n,i,x0,x1,x2,x3,x4,x5,x6,x7,x8,x9,y0,y1,y2,y3,y4,y5,y6,y7,y8,y9,()) => chkS (x0,x1,x2,x3,x4,(x5,x6,x7),x8,x9) = 0 ∧ 0 ≤ i ∧ i ≤ n ∧ n = l.length ∧ l.length ≤ 200
def O_run0:Unit × Unit × List (Int × (Int × (Int × V))) × Int × Int × Int × Int × Int × Int × Int × List (Int × V) × List (List Int) × Int × List (Int × (Int × (Int × Bool))) × Int × Int × Int × Int × Int × Int × List (Int × V) × List (List Int) × Int × List (Int × (Int × (Int × Bool))) × Int × Unit → Tree (Exit × St):=fun ((),(),l,n,i,x0,x1,x2,x3,x4,x5,x6,x7,x8,x9,y0,y1,y2,y3,y4,y5,y6,y7,y8,y9,()) => .cond ((runG (x0,x1,x2,x3,x4,(x5,x6,x7),x8,x9) (l.drop i.toNat) i).2.2 != 0) (.leaf (.ret,L_run0_0.st noU ((),((runG (x0,x1,x2,x3,x4,(x5,x6,x7),x8,x9) (l.drop i.toNat) i).2.1),((runG (x0,x1,x2,x3,x4,(x5,x6,x7),x8,x9) (l.drop i.toNat) i).2.2),((runG (x0,x1,x2,x3,x4,(x5,x6,x7),x8,x9) (l.drop i.toNat) i).1.1),((runG (x0,x1,x2,x3,x4,(x5,x6,x7),x8,x9) (l.drop i.toNat) i).1.2.1),((runG (x0,x1,x2,x3,x4,(x5,x6,x7),x8,x9) (l.drop i.toNat) i).1.2.2.1),((runG (x0,x1,x2,x3,x4,(x5,x6,x7),x8,x9) (l.drop i.toNat) i).1.2.2.2.1),((runG (x0,x1,x2,x3,x4,(x5,x6,x7),x8,x9) (l.drop i.toNat) i).1.2.2.2.2.1),((runG (x0,x1,x2,x3,x4,(x5,x6,x7),x8,x9) (l.drop i.toNat) i).1.2.2.2.2.2.1.1),((runG (x0,x1,x2,x3,x4,(x5,x6,x7),x8,x9) (l.drop i.toNat) i).1.2.2.2.2.2.1.2.1),((runG (x0,x1,x2,x3,x4,(x5,x6,x7),x8,x9) (l.drop i.toNat) i).1.2.2.2.2.2.1.2.2),((runG (x0,x1,x2,x3,x4,(x5,x6,x7),x8,x9) (l.drop i.toNat) i).1.2.2.2.2.2.2.1),((runG (x0,x1,x2,x3,x4,(x5,x6,x7),x8,x9) (l.drop i.toNat) i).1.2.2.2.2.2.2.2),()))) (.leaf (.exit 0,L_run0_1.st noU ((),(),((runG (x0,x1,x2,x3,x4,(x5,x6,x7),x8,x9) (l.drop i.toNat) i).1.1),((runG (x0,x1,x2,x3,x4,(x5,x6,x7),x8,x9) (l.drop i.toNat) i).1.2.1),((runG (x0,x1,x2,x3,x4,(x5,x6,x7),x8,x9) (l.drop i.toNat) i).1.2.2.1),((runG (x0,x1,x2,x3,x4,(x5,x6,x7),x8,x9) (l.drop i.toNat) i).1.2.2.2.1),((runG (x0,x1,x2,x3,x4,(x5,x6,x7),x8,x9) (l.drop i.toNat) i).1.2.2.2.2.1),((runG (x0,x1,x2,x3,x4,(x5,x6,x7),x8,x9) (l.drop i.toNat) i).1.2.2.2.2.2.1.1),((runG (x0,x1,x2,x3,x4,(x5,x6,x7),x8,x9) (l.drop i.toNat) i).1.2.2.2.2.2.1.2.1),((runG (x0,x1,x2,x3,x4,(x5,x6,x7),x8,x9) (l.drop i.toNat) i).1.2.2.2.2.2.1.2.2),((runG (x0,x1,x2,x3,x4,(x5,x6,x7),x8,x9) (l.drop i.toNat) i).1.2.2.2.2.2.2.1),((runG (x0,x1,x2,x3,x4,(x5,x6,x7),x8,x9) (l.drop i.toNat) i).1.2.2.2.2.2.2.2),y0,y1,y2,y3,y4,y5,y6,y7,y8,y9,())))
def R_run0:LRun:=runOf 45 L_run0 (fun x => x) (inv_run0) (O_run0)
theorem K_run0:LoopOk P [] 45 none noU C_run0 (R_run0):=by
  refine loop_of hm (cx:=[c_doX.gc]) [] (xl:=X_run0) (α:=Unit × Unit × List (Int × (Int × (Int × V))) × Int × Int × Int × Int × Int × Int × Int × List (Int × V) × List (List Int) × Int × List (Int × (Int × (Int × Bool))) × Int × Int × Int × Int × Int × Int × List (Int × V) × List (List Int) × Int × List (Int × (Int × (Int × Bool))) × Int × Unit) (fun x => x) (fun ((),(),l,n,i,x0,x1,x2,x3,x4,x5,x6,x7,x8,x9,y0,y1,y2,y3,y4,y5,y6,y7,y8,y9,()) => (n - i).toNat) (fun _ => rfl) (by kernel_rfl) (by kernel_rfl) ?_ (by kernel_rfl) trivial ?_
  · intro e S L' h
    unfold X_run0 at h
    split at h <;> first | (cases h; done) | (cases h; kernel_rfl) | (rcases bif_some h with h | h <;> cases h <;> kernel_rfl)
  · rintro ⟨⟨⟩,⟨⟩,l,n,i,x0,x1,x2,x3,x4,x5,x6,x7,x8,x9,y0,y1,y2,y3,y4,y5,y6,y7,y8,y9,⟨⟩⟩ hinv Q hQ
    refine hold_of_eq (B_run0 l n i x0 x1 x2 x3 x4 x5 x6 x7 x8 x9 y0 y1 y2 y3 y4 y5 y6 y7 y8 y9) ?_
    obtain ⟨hc,h0,h1,rfl,h2⟩:=hinv
    have hv:=chkS_site hc
    have hl9:x8.length ≤ 900:=by have:=hv.l4; dsimp only at this; omega
    unfold O_run0 at hQ
    dsimp only at hQ
    rw [W_id (n:=i + 1) (by omega) (by omega)]
    refine ⟨fun c1 => ?_,fun c1 => ?_⟩
    · have c1:=of_decide_eq_true c1
      have hm:((l.length:Int) - (i + 1)).toNat < ((l.length:Int) - i).toNat:=by omega
      rw [runG_step h0 c1] at hQ
      refine ⟨⟨h0,c1⟩,⟨⟨hv.sOk,(chkS_all hc).1.hou,hl9⟩,fun c2 => ?_,fun c2 => ?_⟩⟩
      · rw [if_pos (bneT c2)] at hQ
        exact hQ.1 c2
      · rw [if_neg (fun k => k (bneF c2))] at hQ
        exact ⟨⟨⟨(do_ok hc (Prod.ext rfl (bneF c2))).1,by omega,by omega,rfl,h2⟩,hm⟩,hQ⟩
    · have c1:=of_decide_eq_false c1
      rw [drop_end c1,runG] at hQ
      exact hQ.2 rfl
theorem T_Run (s_0 s_1 s_2 s_3 s_4:Int) (s_5:List (Int × V)) (s_6:List (List Int)) (s_7:Int) (s_8:List (Int × (Int × (Int × Bool)))) (s_9:Int) (l:List (Int × (Int × (Int × V)))):fnTree (P:=P) [c_Check.gc,c_CopyR.gc,c_doX.gc] (lpOf [(0,R_run0)]) Tryz.f7 (encL 0 [.agg (.pair tI (.pair tI (.pair tI (.pair tI (.pair tI (.pair (.pair (.sl (.pair tI tV)) (.pair (.sl tIs) tI)) (.pair (.sl (.pair tI (.pair tI (.pair tI .bool)))) tI))))))),.val (.sl (.pair tI (.pair tI (.pair tI tV))))] ((s_0,(s_1,(s_2,(s_3,(s_4,((s_5,(s_6,s_7)),(s_8,s_9))))))),l,())) =
  Tree.need (sOk (s_0,s_1,s_2,s_3,s_4,(s_5,s_6,s_7),s_8,s_9)) (.cond (chkS (s_0,s_1,s_2,s_3,s_4,(s_5,s_6,s_7),s_8,s_9) != (0:Int)) (.leaf (SV.tup [SV.agg [SV.int IntKind.i64 (0:Int),SV.int IntKind.i64 (0:Int),SV.int IntKind.i64 (0:Int),SV.int IntKind.i64 (0:Int),SV.int IntKind.i64 (0:Int),SV.nils,SV.nils,SV.int IntKind.i64 (0:Int),SV.nils,SV.int IntKind.i64 (0:Int)],SV.int IntKind.i64 (0:Int),SV.int IntKind.i64 (chkS (s_0,s_1,s_2,s_3,s_4,(s_5,s_6,s_7),s_8,s_9))])) (.cond (decide ((l.length:Int) > (200:Int))) (.leaf (SV.tup [SV.agg [SV.int IntKind.i64 (0:Int),SV.int IntKind.i64 (0:Int),SV.int IntKind.i64 (0:Int),SV.int IntKind.i64 (0:Int),SV.int IntKind.i64 (0:Int),SV.nils,SV.nils,SV.int IntKind.i64 (0:Int),SV.nils,SV.int IntKind.i64 (0:Int)],SV.int IntKind.i64 (0:Int),SV.int IntKind.i64 (8:Int)])) (.need (sOk (s_0,s_1,s_2,s_3,s_4,(s_5,s_6,s_7),s_8,s_9)) (.need (inv_run0 ((),(),l,(l.length:Int),(0:Int),s_0,s_1,s_2,s_3,s_4,s_5,s_6,s_7,s_8,s_9,(0:Int),(0:Int),(0:Int),(0:Int),(0:Int),[],[],(0:Int),[],(0:Int),())) (.cond ((runG (s_0,s_1,s_2,s_3,s_4,(s_5,s_6,s_7),s_8,s_9) (List.drop (Int.toNat (0:Int)) l) (0:Int)).snd.snd != (0:Int)) (.leaf (SV.tup [SV.agg [SV.int IntKind.i64 (runG (s_0,s_1,s_2,s_3,s_4,(s_5,s_6,s_7),s_8,s_9) (List.drop (Int.toNat (0:Int)) l) (0:Int)).fst.fst,SV.int IntKind.i64 (runG (s_0,s_1,s_2,s_3,s_4,(s_5,s_6,s_7),s_8,s_9) (List.drop (Int.toNat (0:Int)) l) (0:Int)).fst.snd.fst,SV.int IntKind.i64 (runG (s_0,s_1,s_2,s_3,s_4,(s_5,s_6,s_7),s_8,s_9) (List.drop (Int.toNat (0:Int)) l) (0:Int)).fst.snd.snd.fst,SV.int IntKind.i64 (runG (s_0,s_1,s_2,s_3,s_4,(s_5,s_6,s_7),s_8,s_9) (List.drop (Int.toNat (0:Int)) l) (0:Int)).fst.snd.snd.snd.fst,SV.int IntKind.i64 (runG (s_0,s_1,s_2,s_3,s_4,(s_5,s_6,s_7),s_8,s_9) (List.drop (Int.toNat (0:Int)) l) (0:Int)).fst.snd.snd.snd.snd.fst,SV.sl (Ty.pair tI tV) (runG (s_0,s_1,s_2,s_3,s_4,(s_5,s_6,s_7),s_8,s_9) (List.drop (Int.toNat (0:Int)) l) (0:Int)).fst.snd.snd.snd.snd.snd.fst.fst,SV.sl (Ty.sl tI) (runG (s_0,s_1,s_2,s_3,s_4,(s_5,s_6,s_7),s_8,s_9) (List.drop (Int.toNat (0:Int)) l) (0:Int)).fst.snd.snd.snd.snd.snd.fst.snd.fst,SV.int IntKind.i64 (runG (s_0,s_1,s_2,s_3,s_4,(s_5,s_6,s_7),s_8,s_9) (List.drop (Int.toNat (0:Int)) l) (0:Int)).fst.snd.snd.snd.snd.snd.fst.snd.snd,SV.sl (Ty.pair tI (Ty.pair tI (Ty.pair tI Ty.bool))) (runG (s_0,s_1,s_2,s_3,s_4,(s_5,s_6,s_7),s_8,s_9) (List.drop (Int.toNat (0:Int)) l) (0:Int)).fst.snd.snd.snd.snd.snd.snd.fst,SV.int IntKind.i64 (runG (s_0,s_1,s_2,s_3,s_4,(s_5,s_6,s_7),s_8,s_9) (List.drop (Int.toNat (0:Int)) l) (0:Int)).fst.snd.snd.snd.snd.snd.snd.snd],SV.int IntKind.i64 (runG (s_0,s_1,s_2,s_3,s_4,(s_5,s_6,s_7),s_8,s_9) (List.drop (Int.toNat (0:Int)) l) (0:Int)).snd.fst,SV.int IntKind.i64 (runG (s_0,s_1,s_2,s_3,s_4,(s_5,s_6,s_7),s_8,s_9) (List.drop (Int.toNat (0:Int)) l) (0:Int)).snd.snd])) (.leaf (SV.tup [SV.agg [SV.int IntKind.i64 (runG (s_0,s_1,s_2,s_3,s_4,(s_5,s_6,s_7),s_8,s_9) (List.drop (Int.toNat (0:Int)) l) (0:Int)).fst.fst,SV.int IntKind.i64 (runG (s_0,s_1,s_2,s_3,s_4,(s_5,s_6,s_7),s_8,s_9) (List.drop (Int.toNat (0:Int)) l) (0:Int)).fst.snd.fst,SV.int IntKind.i64 (runG (s_0,s_1,s_2,s_3,s_4,(s_5,s_6,s_7),s_8,s_9) (List.drop (Int.toNat (0:Int)) l) (0:Int)).fst.snd.snd.fst,SV.int IntKind.i64 (runG (s_0,s_1,s_2,s_3,s_4,(s_5,s_6,s_7),s_8,s_9) (List.drop (Int.toNat (0:Int)) l) (0:Int)).fst.snd.snd.snd.fst,SV.int IntKind.i64 (runG (s_0,s_1,s_2,s_3,s_4,(s_5,s_6,s_7),s_8,s_9) (List.drop (Int.toNat (0:Int)) l) (0:Int)).fst.snd.snd.snd.snd.fst,SV.sl (Ty.pair tI tV) (runG (s_0,s_1,s_2,s_3,s_4,(s_5,s_6,s_7),s_8,s_9) (List.drop (Int.toNat (0:Int)) l) (0:Int)).fst.snd.snd.snd.snd.snd.fst.fst,SV.sl (Ty.sl tI) (runG (s_0,s_1,s_2,s_3,s_4,(s_5,s_6,s_7),s_8,s_9) (List.drop (Int.toNat (0:Int)) l) (0:Int)).fst.snd.snd.snd.snd.snd.fst.snd.fst,SV.int IntKind.i64 (runG (s_0,s_1,s_2,s_3,s_4,(s_5,s_6,s_7),s_8,s_9) (List.drop (Int.toNat (0:Int)) l) (0:Int)).fst.snd.snd.snd.snd.snd.fst.snd.snd,SV.sl (Ty.pair tI (Ty.pair tI (Ty.pair tI Ty.bool))) (runG (s_0,s_1,s_2,s_3,s_4,(s_5,s_6,s_7),s_8,s_9) (List.drop (Int.toNat (0:Int)) l) (0:Int)).fst.snd.snd.snd.snd.snd.snd.fst,SV.int IntKind.i64 (runG (s_0,s_1,s_2,s_3,s_4,(s_5,s_6,s_7),s_8,s_9) (List.drop (Int.toNat (0:Int)) l) (0:Int)).fst.snd.snd.snd.snd.snd.snd.snd],SV.int IntKind.i64 (-1:Int),SV.int IntKind.i64 (0:Int)]))))))):=by kernel_rfl
def c_Run:PC P:=PC.of (α:=(Int × (Int × (Int × (Int × (Int × ((List (Int × V) × (List (List Int) × Int)) × (List (Int × (Int × (Int × Bool))) × Int))))))) × List (Int × (Int × (Int × V))) × Unit) 7 [.agg (.pair tI (.pair tI (.pair tI (.pair tI (.pair tI (.pair (.pair (.sl (.pair tI tV)) (.pair (.sl tIs) tI)) (.pair (.sl (.pair tI (.pair tI (.pair tI .bool)))) tI))))))),.val (.sl (.pair tI (.pair tI (.pair tI tV))))] (fun x => x) (fun x => x) (fun _ => rfl)
  (fun x => some (sOk x.1))
  (fun x => resN (runS x.1 x.2.1)) (by kernel_rfl) (by
    rintro ⟨⟨s_0,⟨s_1,⟨s_2,⟨s_3,⟨s_4,⟨⟨s_5,⟨s_6,s_7⟩⟩,⟨s_8,s_9⟩⟩⟩⟩⟩⟩⟩,l,⟨⟩⟩ hp
    refine fn_le hm (by kernel_rfl) (by kernel_rfl) (T_Run s_0 s_1 s_2 s_3 s_4 s_5 s_6 s_7 s_8 s_9 l) ⟨K_run0,trivial⟩ (by kernel_rfl) ?_
    try dsimp only at hp
    try dsimp only
    have hs:sOk (s_0,s_1,s_2,s_3,s_4,(s_5,s_6,s_7),s_8,s_9):=hp
    show Tree.holds (fun x => LeS x (resN (runS (s_0,s_1,s_2,s_3,s_4,(s_5,s_6,s_7),s_8,s_9) l))) _
    refine ⟨hs,⟨fun c1 => ?_,fun c1 => ⟨fun c2 => ?_,fun c2 => ⟨hs,⟨⟨bneF c1,by decide,by omega,rfl,by have:=of_decide_eq_false c2; omega⟩,⟨fun c3 => ?_,fun c3 => ?_⟩⟩⟩⟩⟩⟩
    · have e:runS (s_0,s_1,s_2,s_3,s_4,(s_5,s_6,s_7),s_8,s_9) l = (zSite,0,chkS (s_0,s_1,s_2,s_3,s_4,(s_5,s_6,s_7),s_8,s_9)):=if_pos (bneT c1)
      rw [e]; exact leN_bad _
    all_goals have d1:¬ chkS (s_0,s_1,s_2,s_3,s_4,(s_5,s_6,s_7),s_8,s_9) ≠ 0:=fun k => k (bneF c1)
    · have c2:=of_decide_eq_true c2
      have e:runS (s_0,s_1,s_2,s_3,s_4,(s_5,s_6,s_7),s_8,s_9) l = (zSite,0,8):=by
        unfold runS
        rw [if_neg d1,if_pos (by omega)]
      rw [e]; exact leN_bad _
    all_goals have c2:=of_decide_eq_false c2
    all_goals have e:runS (s_0,s_1,s_2,s_3,s_4,(s_5,s_6,s_7),s_8,s_9) l = runG (s_0,s_1,s_2,s_3,s_4,(s_5,s_6,s_7),s_8,s_9) l 0:=by unfold runS; rw [if_neg d1,if_neg (by omega)]
    · rw [e]; exact leN_good _
    · have c3:(runG (s_0,s_1,s_2,s_3,s_4,(s_5,s_6,s_7),s_8,s_9) l 0).2.2 = 0:=bneF c3
      have k:=runG_end l (s_0,s_1,s_2,s_3,s_4,(s_5,s_6,s_7),s_8,s_9) 0 c3
      have e2:runG (s_0,s_1,s_2,s_3,s_4,(s_5,s_6,s_7),s_8,s_9) l 0 = ((runG (s_0,s_1,s_2,s_3,s_4,(s_5,s_6,s_7),s_8,s_9) l 0).1,-1,0):=Prod.ext rfl (Prod.ext k c3)
      rw [e,e2]; exact leN_good ((runG (s_0,s_1,s_2,s_3,s_4,(s_5,s_6,s_7),s_8,s_9) l 0).1,-1,0))
end
end Go.MB
