/- Following a string: the program's walk, once for each mode. -/
import Derived.Test.YtoockflaeaknbaaGreatMvI
namespace Go.MP
open Go Go.Sx Go.Proofs
set_option linter.unusedVariables false
set_option linter.unusedSimpArgs false
noncomputable section
def folS (sl:List Tb) (p:Pth) (c:Cs):Bool × List Hg × List R2 :=
  if (runF sl p c (-1) (startS c) [] [] (pcsS sl p)).1 = true then (true,(runF sl p c (-1) (startS c) [] [] (pcsS sl p)).2.2.2.1,(runF sl p c (-1) (startS c) [] [] (pcsS sl p)).2.2.2.2) else (false,[],[])
def L_fo1:Lay:={ slots:=[(3,.ptr 4205 0),(4,.ptr 5205 0),(5,.ptr 6205 0),(6,.ptr 7205 0),(7,.ptr 8205 0),(8,.ptr 9205 0),(9,.ptr 10205 0),(10,.ptr 11205 0),(11,.ptr 12205 0),(12,.ptr 13205 0),(13,.ptr 14205 0),(51,.clo 98 [(52205,0),(52206,0)])],boxes:=[(4205,[.val tTs]),(5205,[.val tI,.val tI,.val tI,.val tVs]),(6205,[.val tI,.val tI,.val tI,.val tI,.val tI]),(7205,[.any]),(8205,[.any]),(9205,[.any]),(10205,[.ptr 23205 0]),(23205,[.val tI,.val tI,.val tI,.val tI]),(11205,[.fn 106,.fn 110]),(12205,[.val tI]),(13205,[.row 67 tHg]),(14205,[.row 31 tPart]),(52205,[.val tI,.val tI,.val tI,.val tVs]),(52206,[.val tTs])] }
def L_fo1_0:Lay:={ slots:=[(6,.ptr 7205 0),(7,.ptr 8205 0),(8,.ptr 9205 0),(12,.ptr 13205 0),(13,.ptr 14205 0)],boxes:=[(7205,[.any]),(8205,[.any]),(9205,[.any]),(13205,[.row 67 tHg]),(14205,[.row 31 tPart])] }
def L_fo1_1:Lay:={ slots:=[(6,.ptr 7205 0),(7,.ptr 8205 0),(8,.ptr 9205 0)],boxes:=[(7205,[.nils]),(8205,[.nils]),(9205,[.val .bool])] }
def X_fo1:Exit → St → Option Lay
  | .normal,_ => some L_fo1_0
  | .ret,_ => some L_fo1_1
  | _,_ => none
abbrev C_fo1:Code:=loopC (bodyOf Tryz.f67) 0
abbrev A_fo1:Type:=Unit × Unit × Unit × Unit × Unit × Unit × Unit × Unit × Unit × Unit × Unit × Unit × List Tb × Int × Int × Int × List V × Int × Int × Int × Int × Int × Unit × Unit × Unit × Unit × Int × Int × Int × Int × Unit × Unit × Int × List Hg × List R2 × Int × Int × Int × List V × List Tb × Unit
abbrev Y_fo1 (a:A_fo1):List YH:=[⟨990,roundRun (P:=P) [c_Bend.gc,c_wild.gc,c_root.gc,c_Wet.gc,c_down.gc,c_up.gc,c_add,c_Side.gc,c_bendU.gc,c_rubU.gc,c_Vert.gc,c_plength.gc] [] 205 990 (L_fo1.st noU a).tmps (rgPs C_fo1).toList (rgAssign C_fo1) (rgBody C_fo1)⟩]
abbrev U_fo1 (a:A_fo1):Nat → Bool:=apU (L_fo1.st noU a).used [990]
def L_fo1n4:Lay:={ slots:=[(0,.yld 990),(4,.val tKs),(5,.val tI),(6,.val tI),(7,.val tI),(9,.val tI),(21,.val tTs),(22,.val tI),(23,.val tI)],boxes:=[(4205,[.val tTs]),(5205,[.val tI,.val tI,.val tI,.val tVs]),(6205,[.val tI,.val tI,.val tI,.val tI,.val tI]),(7205,[.any]),(8205,[.any]),(9205,[.any]),(10205,[.ptr 23205 0]),(23205,[.val tI,.val tI,.val tI,.val tI]),(11205,[.fn 106,.fn 110]),(12205,[.val tI]),(13205,[.row 67 tHg]),(14205,[.row 31 tPart])],recs:=[(990,.ready)] }
def L_fo1n4_0:Lay:={ slots:=[(0,.yld 990),(4,.val tKs),(5,.val tI),(6,.val tI),(7,.val tI),(9,.val tI),(21,.val tTs),(22,.val tI),(23,.val tI)],boxes:=[(4205,[.val tTs]),(5205,[.val tI,.val tI,.val tI,.val tVs]),(6205,[.val tI,.val tI,.val tI,.val tI,.val tI]),(7205,[.any]),(8205,[.any]),(9205,[.any]),(10205,[.ptr 23205 0]),(23205,[.val tI,.val tI,.val tI,.val tI]),(11205,[.fn 106,.fn 110]),(12205,[.val tI]),(13205,[.row 67 tHg]),(14205,[.row 31 tPart])],recs:=[(990,.ready)] }
def X_fo1n4:Exit → St → Option Lay
  | .exit 4,_ => some L_fo1n4_0
  | _,_ => none
abbrev C_fo1n4:Code:=loopC (inner (loopC (inner (loopC (bodyOf Tryz.f98) 0)) 2)) 4
theorem B_fo1n4 (o:A_fo1) (ks:List K2) (g to i top:Int) (l:List Tb) (n j:Int) (sl:List Tb) (px py pz:Int) (pl:List V) (cm cw cl ch cb:Int) (lo hi tl th:Int) (below:Int) (aft:List Hg) (bef:List R2):loopBodyA (P:=P) [] (lpOf []) (Y_fo1 o) 65 (U_fo1 o) (inner C_fo1n4) L_fo1n4 X_fo1n4 (α:=Unit × List K2 × Int × Int × Int × Int × List Tb × Int × Int × List Tb × Int × Int × Int × List V × Int × Int × Int × Int × Int × Unit × Unit × Unit × Unit × Int × Int × Int × Int × Unit × Unit × Int × List Hg × List R2 × Unit) (fun x => x) (fun x => x) ((),ks,g,to,i,top,l,n,j,sl,px,py,pz,pl,cm,cw,cl,ch,cb,(),(),(),(),lo,hi,tl,th,(),(),below,aft,bef,()) =
  Tree.need ((0:Int) ≤ g ∧ g < (ks.length:Int)) (.cond (decide ((List.getD ks (Int.toNat g) (0,0)).fst ≥ to)) (.leaf (Sum.inl ((),ks,IntKind.i64.wrap (g - (1:Int)),to,i,top,l,n,j,sl,px,py,pz,pl,cm,cw,cl,ch,cb,(),(),(),(),lo,hi,tl,th,(),(),below,aft,bef,()))) (.leaf (Sum.inr (Exit.exit (4:Nat),Lay.st L_fo1n4_0 (U_fo1 o) ((),ks,g,to,i,top,l,n,j,sl,px,py,pz,pl,cm,cw,cl,ch,cb,(),(),(),(),lo,hi,tl,th,(),(),below,aft,bef,()))))):=by kernel_rfl
def inv_fo1n4 (o:A_fo1):Unit × List K2 × Int × Int × Int × Int × List Tb × Int × Int × List Tb × Int × Int × Int × List V × Int × Int × Int × Int × Int × Unit × Unit × Unit × Unit × Int × Int × Int × Int × Unit × Unit × Int × List Hg × List R2 × Unit → Prop:=fun (_,ks,g,to,i,top,l,n,j,_) => ∃ L,Down ks L ∧ 0 < to ∧ to ≤ L ∧ LegAt ks to g ∧ (ks.length:Int) ≤ 1000
def O_fo1n4 (o:A_fo1):Unit × List K2 × Int × Int × Int × Int × List Tb × Int × Int × List Tb × Int × Int × Int × List V × Int × Int × Int × Int × Int × Unit × Unit × Unit × Unit × Int × Int × Int × Int × Unit × Unit × Int × List Hg × List R2 × Unit → Tree (Exit × St):=fun (_,ks,g,to,i,top,l,n,j,sl,px,py,pz,pl,cm,cw,cl,ch,cb,_,_,_,_,lo,hi,tl,th,_,_,below,aft,bef,_) => .leaf (.exit 4,L_fo1n4_0.st (U_fo1 o) ((),ks,legOf ks to,to,i,top,l,n,j,sl,px,py,pz,pl,cm,cw,cl,ch,cb,(),(),(),(),lo,hi,tl,th,(),(),below,aft,bef,()))
def R_fo1n4 (o:A_fo1):LRun:=runOf 65 L_fo1n4 (fun x => x) (inv_fo1n4 o) (O_fo1n4 o)
theorem K_fo1n4 (o:A_fo1):LoopOk P (Y_fo1 o) 65 none (U_fo1 o) C_fo1n4 (R_fo1n4 o):=by
  refine loop_of hm (cx:=[]) [] (xl:=X_fo1n4) (α:=Unit × List K2 × Int × Int × Int × Int × List Tb × Int × Int × List Tb × Int × Int × Int × List V × Int × Int × Int × Int × Int × Unit × Unit × Unit × Unit × Int × Int × Int × Int × Unit × Unit × Int × List Hg × List R2 × Unit) (fun x => x) (fun (_,ks,g,_) => g.toNat) (fun _ => rfl) (by kernel_rfl) (by kernel_rfl) ?_ (by kernel_rfl) trivial ?_
  · intro e S L' h
    unfold X_fo1n4 at h
    split at h <;> first | (cases h; done) | (cases h; kernel_rfl) | (rcases bif_some h with h | h <;> cases h <;> kernel_rfl)
  · rintro ⟨⟨⟩,ks,g,to,i,top,l,n,j,sl,px,py,pz,pl,cm,cw,cl,ch,cb,⟨⟩,⟨⟩,⟨⟩,⟨⟩,lo,hi,tl,th,⟨⟩,⟨⟩,below,aft,bef,⟨⟩⟩ hinv Q hQ
    refine hold_of_eq (B_fo1n4 o ks g to i top l n j sl px py pz pl cm cw cl ch cb lo hi tl th below aft bef) ?_
    obtain ⟨L,hd,h0,h1,⟨h2,h3,h4⟩,h5⟩:=hinv
    have hg:=h4 h0
    obtain ⟨l1,l2,l3,l4⟩:=legOf_ok hd h0 h1
    unfold O_fo1n4 at hQ
    dsimp only at hQ
    refine ⟨⟨h2,by omega⟩,fun c1 => ?_,fun c1 => ?_⟩
    · have c1:knotA ks g ≥ to:=of_decide_eq_true c1
      have hlt:legOf ks to < g:=by
        rcases Int.lt_or_le (legOf ks to) g with e | e
        · exact e
        · have:legOf ks to = g:=by omega
          rw [this] at l3; omega
      rw [W_id (n:=g - 1) (by omega) (by omega)]
      exact ⟨⟨⟨L,hd,h0,h1,⟨by omega,by omega,fun _ => by omega⟩,h5⟩,by show (g - 1).toNat < g.toNat; omega⟩,hQ⟩
    · have c1:¬ knotA ks g ≥ to:=of_decide_eq_false c1
      have e:legOf ks to = g:=by
        rcases Int.lt_or_le (legOf ks to) g with e | e
        · have:=hd.asc (legOf ks to + 1) g (by omega) (by omega) (by omega)
          omega
        · omega
      rw [e] at hQ
      exact hQ
def L_fo1n2:Lay:={ slots:=[(0,.yld 990),(4,.val tKs),(5,.val tI),(6,.val tI),(7,.val tI),(9,.val tI),(21,.val tTs),(22,.val tI),(23,.val tI)],boxes:=[(4205,[.val tTs]),(5205,[.val tI,.val tI,.val tI,.val tVs]),(6205,[.val tI,.val tI,.val tI,.val tI,.val tI]),(7205,[.any]),(8205,[.any]),(9205,[.any]),(10205,[.ptr 23205 0]),(23205,[.val tI,.val tI,.val tI,.val tI]),(11205,[.fn 106,.fn 110]),(12205,[.val tI]),(13205,[.row 67 tHg]),(14205,[.row 31 tPart])],recs:=[(990,.ready)] }
def L_fo1n2_0:Lay:={ slots:=[(0,.yld 990),(4,.val tKs),(5,.val tI),(6,.val tI),(21,.val tTs),(22,.val tI),(23,.val tI)],boxes:=[(4205,[.val tTs]),(5205,[.val tI,.val tI,.val tI,.val tVs]),(6205,[.val tI,.val tI,.val tI,.val tI,.val tI]),(7205,[.any]),(8205,[.any]),(9205,[.any]),(10205,[.ptr 23205 0]),(23205,[.val tI,.val tI,.val tI,.val tI]),(11205,[.fn 106,.fn 110]),(12205,[.val tI]),(13205,[.row 67 tHg]),(14205,[.row 31 tPart])],recs:=[(990,.ready)] }
def L_fo1n2_1:Lay:={ slots:=[],boxes:=[(7205,[.nils]),(8205,[.nils]),(9205,[.val .bool])],recs:=[(990,.done .ret)] }
def X_fo1n2:Exit → St → Option Lay
  | .exit 2,_ => some L_fo1n2_0
  | .exit 0,_ => some L_fo1n2_1
  | _,_ => none
abbrev C_fo1n2:Code:=loopC (inner (loopC (bodyOf Tryz.f98) 0)) 2
theorem B_fo1n2 (o:A_fo1) (ks:List K2) (g to i top:Int) (l:List Tb) (n j:Int) (sl:List Tb) (px py pz:Int) (pl:List V) (cm cw cl ch cb:Int) (lo hi tl th:Int) (below:Int) (aft:List Hg) (bef:List R2) (x4_:Int × Int × Int × Int × Int × Int × Int × Int × Int) (hx4_:x4_ = (List.getD sl (Int.toNat i) (0,0,0,0,0,0,0,0,0))) (x5_:Int × Int × Int) (hx5_:x5_ = (List.getD pl (Int.toNat (legOf ks to)) (0,0,0))) (x1_:Int × Bool) (hx1_:x1_ = (rootS (IntKind.i64.wrap (IntKind.i64.wrap (IntKind.i64.wrap (x5_.fst * x5_.fst) + IntKind.i64.wrap (x5_.snd.fst * x5_.snd.fst)) + IntKind.i64.wrap (x5_.snd.snd * x5_.snd.snd))))) (x6_:Int × Int) (hx6_:x6_ = (List.getD ks (Int.toNat (legOf ks to)) (0,0))) (x7_:Int × Int × Int × Int) (hx7_:x7_ = (bentS (1:Int) (cl,ch) (bendV x5_ (List.getD pl (Int.toNat below) (0,0,0))) x4_.snd.snd.snd.snd.fst (lo,hi,tl,th))) (x8_:Int) (hx8_:x8_ = (IntKind.i64.wrap (IntKind.i64.wrap (wetS x4_ cw * IntKind.i64.wrap (to - maxI top x6_.fst)) * (sideS x5_).snd))) (x9_:Int) (hx9_:x9_ = (IntKind.i64.wrap (IntKind.i64.wrap (wetS x4_ cw * IntKind.i64.wrap (to - maxI top x6_.fst)) * x5_.snd.snd))) (x2_:Int × Int × Int × Int) (hx2_:x2_ = (rubS (1:Int) (IntKind.i64.wrap (IntKind.i64.wrap (IntKind.i64.wrap (wetS x4_ cw * IntKind.i64.wrap (to - maxI top x6_.fst)) * (sideS x5_).fst) / x1_.fst * cl) / (1000:Int)) (upS (IntKind.i64.wrap (upS x8_ x1_.fst * ch)) (1000:Int)) x4_.snd.snd.snd.snd.fst (IntKind.i64.wrap (lo + IntKind.i64.wrap (IntKind.i64.wrap (wetS x4_ cw * IntKind.i64.wrap (to - maxI top x6_.fst)) * x5_.snd.snd) / x1_.fst),IntKind.i64.wrap (hi + upS x9_ x1_.fst),tl,th))) (x3_:Int × Int × Int × Int) (hx3_:x3_ = (rubS (1:Int) (IntKind.i64.wrap (IntKind.i64.wrap (IntKind.i64.wrap (wetS x4_ cw * IntKind.i64.wrap (to - maxI top x6_.fst)) * (sideS x5_).fst) / x1_.fst * cl) / (1000:Int)) (upS (IntKind.i64.wrap (upS x8_ x1_.fst * ch)) (1000:Int)) x4_.snd.snd.snd.snd.fst (IntKind.i64.wrap (x7_.fst + IntKind.i64.wrap (IntKind.i64.wrap (wetS x4_ cw * IntKind.i64.wrap (to - maxI top x6_.fst)) * x5_.snd.snd) / x1_.fst),IntKind.i64.wrap (x7_.snd.fst + upS x9_ x1_.fst),x7_.snd.snd))):loopBodyA (P:=P) [] (lpOf [(4,R_fo1n4 o)]) (Y_fo1 o) 65 (U_fo1 o) (inner C_fo1n2) L_fo1n2 X_fo1n2 (α:=Unit × List K2 × Int × Int × Int × Int × List Tb × Int × Int × List Tb × Int × Int × Int × List V × Int × Int × Int × Int × Int × Unit × Unit × Unit × Unit × Int × Int × Int × Int × Unit × Unit × Int × List Hg × List R2 × Unit) (fun x => x) (fun x => x) ((),ks,g,to,i,top,l,n,j,sl,px,py,pz,pl,cm,cw,cl,ch,cb,(),(),(),(),lo,hi,tl,th,(),(),below,aft,bef,()) =
  Tree.cond (decide (to > top)) (.need (inv_fo1n4 o ((),ks,g,to,i,top,l,n,j,sl,px,py,pz,pl,cm,cw,cl,ch,cb,(),(),(),(),lo,hi,tl,th,(),(),below,aft,bef,())) (.need ((0:Int) ≤ legOf ks to ∧ legOf ks to < (ks.length:Int)) (.need ((0:Int) ≤ i ∧ i < (sl.length:Int)) (.need ((0:Int) ≤ legOf ks to ∧ legOf ks to < (pl.length:Int)) (.cond (decide (below ≥ (0:Int))) (.cond (below != legOf ks to) (.need ((0:Int) ≤ below ∧ below < (pl.length:Int)) (.need (OkX lo hi ∧ OkMu (cl,ch) ∧ OkB (bendV x5_ (List.getD pl (Int.toNat below) (0,0,0)))) (.cond (wildS x7_) (.leaf (Sum.inr (Exit.exit (0:Nat),Lay.st L_fo1n2_1 (U_fo1 o) ((),(),false,())))) (.need ((List.length bef + List.length [(x7_.fst,x7_.snd.fst)]) * (16:Nat) ≤ (140737488355328:Nat)) (.need ((0:Int) < x1_.fst ∧ (-9223372036854775808:Int) < IntKind.i64.wrap (IntKind.i64.wrap (wetS x4_ cw * IntKind.i64.wrap (to - maxI top x6_.fst)) * x5_.snd.snd) ∧ IntKind.i64.wrap (IntKind.i64.wrap (wetS x4_ cw * IntKind.i64.wrap (to - maxI top x6_.fst)) * x5_.snd.snd) ≤ (9223372036854775807:Int)) (.need ((0:Int) < x1_.fst ∧ (-9223372036854775808:Int) < IntKind.i64.wrap (IntKind.i64.wrap (wetS x4_ cw * IntKind.i64.wrap (to - maxI top x6_.fst)) * x5_.snd.snd) ∧ IntKind.i64.wrap (IntKind.i64.wrap (wetS x4_ cw * IntKind.i64.wrap (to - maxI top x6_.fst)) * x5_.snd.snd) < (9223372036854775807:Int)) (.cond (wildS (IntKind.i64.wrap (x7_.fst + IntKind.i64.wrap (IntKind.i64.wrap (wetS x4_ cw * IntKind.i64.wrap (to - maxI top x6_.fst)) * x5_.snd.snd) / x1_.fst),IntKind.i64.wrap (x7_.snd.fst + upS x9_ x1_.fst),x7_.snd.snd)) (.leaf (Sum.inr (Exit.exit (0:Nat),Lay.st L_fo1n2_1 (U_fo1 o) ((),(),false,())))) (.need ((0:Int) < x1_.fst ∧ (-9223372036854775808:Int) < IntKind.i64.wrap (IntKind.i64.wrap (wetS x4_ cw * IntKind.i64.wrap (to - maxI top x6_.fst)) * (sideS x5_).fst) ∧ IntKind.i64.wrap (IntKind.i64.wrap (wetS x4_ cw * IntKind.i64.wrap (to - maxI top x6_.fst)) * (sideS x5_).fst) ≤ (9223372036854775807:Int)) (.need ((0:Int) < (1000:Int) ∧ (-9223372036854775808:Int) < IntKind.i64.wrap (IntKind.i64.wrap (IntKind.i64.wrap (wetS x4_ cw * IntKind.i64.wrap (to - maxI top x6_.fst)) * (sideS x5_).fst) / x1_.fst * cl) ∧ IntKind.i64.wrap (IntKind.i64.wrap (IntKind.i64.wrap (wetS x4_ cw * IntKind.i64.wrap (to - maxI top x6_.fst)) * (sideS x5_).fst) / x1_.fst * cl) ≤ (9223372036854775807:Int)) (.need ((0:Int) < x1_.fst ∧ (-9223372036854775808:Int) < IntKind.i64.wrap (IntKind.i64.wrap (wetS x4_ cw * IntKind.i64.wrap (to - maxI top x6_.fst)) * (sideS x5_).snd) ∧ IntKind.i64.wrap (IntKind.i64.wrap (wetS x4_ cw * IntKind.i64.wrap (to - maxI top x6_.fst)) * (sideS x5_).snd) < (9223372036854775807:Int)) (.need ((0:Int) < (1000:Int) ∧ (-9223372036854775808:Int) < IntKind.i64.wrap (upS x8_ x1_.fst * ch) ∧ IntKind.i64.wrap (upS x8_ x1_.fst * ch) < (9223372036854775807:Int)) (.need (OkX (IntKind.i64.wrap (x7_.fst + IntKind.i64.wrap (IntKind.i64.wrap (wetS x4_ cw * IntKind.i64.wrap (to - maxI top x6_.fst)) * x5_.snd.snd) / x1_.fst)) (IntKind.i64.wrap (x7_.snd.fst + upS x9_ x1_.fst)) ∧ OkF (IntKind.i64.wrap (IntKind.i64.wrap (IntKind.i64.wrap (wetS x4_ cw * IntKind.i64.wrap (to - maxI top x6_.fst)) * (sideS x5_).fst) / x1_.fst * cl) / (1000:Int)) (upS (IntKind.i64.wrap (upS x8_ x1_.fst * ch)) (1000:Int))) (.cond (wildS x3_) (.leaf (Sum.inr (Exit.exit (0:Nat),Lay.st L_fo1n2_1 (U_fo1 o) ((),(),false,())))) (.need ((List.length aft + List.length [(maxI top x6_.fst,(x3_.fst,x3_.snd.fst),x3_.snd.snd)]) * (40:Nat) ≤ (140737488355328:Nat)) (.leaf (Sum.inl ((),ks,legOf ks to,maxI top x6_.fst,i,top,l,n,j,sl,px,py,pz,pl,cm,cw,cl,ch,cb,(),(),(),(),x3_.fst,x3_.snd.fst,x3_.snd.snd.fst,x3_.snd.snd.snd,(),(),legOf ks to,aft ++ [(maxI top x6_.fst,(x3_.fst,x3_.snd.fst),x3_.snd.snd)],bef ++ [(x7_.fst,x7_.snd.fst)],()))))))))))))))))) (.need ((List.length bef + List.length [(lo,hi)]) * (16:Nat) ≤ (140737488355328:Nat)) (.need ((0:Int) < x1_.fst ∧ (-9223372036854775808:Int) < IntKind.i64.wrap (IntKind.i64.wrap (wetS x4_ cw * IntKind.i64.wrap (to - maxI top x6_.fst)) * x5_.snd.snd) ∧ IntKind.i64.wrap (IntKind.i64.wrap (wetS x4_ cw * IntKind.i64.wrap (to - maxI top x6_.fst)) * x5_.snd.snd) ≤ (9223372036854775807:Int)) (.need ((0:Int) < x1_.fst ∧ (-9223372036854775808:Int) < IntKind.i64.wrap (IntKind.i64.wrap (wetS x4_ cw * IntKind.i64.wrap (to - maxI top x6_.fst)) * x5_.snd.snd) ∧ IntKind.i64.wrap (IntKind.i64.wrap (wetS x4_ cw * IntKind.i64.wrap (to - maxI top x6_.fst)) * x5_.snd.snd) < (9223372036854775807:Int)) (.cond (wildS (IntKind.i64.wrap (lo + IntKind.i64.wrap (IntKind.i64.wrap (wetS x4_ cw * IntKind.i64.wrap (to - maxI top x6_.fst)) * x5_.snd.snd) / x1_.fst),IntKind.i64.wrap (hi + upS x9_ x1_.fst),tl,th)) (.leaf (Sum.inr (Exit.exit (0:Nat),Lay.st L_fo1n2_1 (U_fo1 o) ((),(),false,())))) (.need ((0:Int) < x1_.fst ∧ (-9223372036854775808:Int) < IntKind.i64.wrap (IntKind.i64.wrap (wetS x4_ cw * IntKind.i64.wrap (to - maxI top x6_.fst)) * (sideS x5_).fst) ∧ IntKind.i64.wrap (IntKind.i64.wrap (wetS x4_ cw * IntKind.i64.wrap (to - maxI top x6_.fst)) * (sideS x5_).fst) ≤ (9223372036854775807:Int)) (.need ((0:Int) < (1000:Int) ∧ (-9223372036854775808:Int) < IntKind.i64.wrap (IntKind.i64.wrap (IntKind.i64.wrap (wetS x4_ cw * IntKind.i64.wrap (to - maxI top x6_.fst)) * (sideS x5_).fst) / x1_.fst * cl) ∧ IntKind.i64.wrap (IntKind.i64.wrap (IntKind.i64.wrap (wetS x4_ cw * IntKind.i64.wrap (to - maxI top x6_.fst)) * (sideS x5_).fst) / x1_.fst * cl) ≤ (9223372036854775807:Int)) (.need ((0:Int) < x1_.fst ∧ (-9223372036854775808:Int) < IntKind.i64.wrap (IntKind.i64.wrap (wetS x4_ cw * IntKind.i64.wrap (to - maxI top x6_.fst)) * (sideS x5_).snd) ∧ IntKind.i64.wrap (IntKind.i64.wrap (wetS x4_ cw * IntKind.i64.wrap (to - maxI top x6_.fst)) * (sideS x5_).snd) < (9223372036854775807:Int)) (.need ((0:Int) < (1000:Int) ∧ (-9223372036854775808:Int) < IntKind.i64.wrap (upS x8_ x1_.fst * ch) ∧ IntKind.i64.wrap (upS x8_ x1_.fst * ch) < (9223372036854775807:Int)) (.need (OkX (IntKind.i64.wrap (lo + IntKind.i64.wrap (IntKind.i64.wrap (wetS x4_ cw * IntKind.i64.wrap (to - maxI top x6_.fst)) * x5_.snd.snd) / x1_.fst)) (IntKind.i64.wrap (hi + upS x9_ x1_.fst)) ∧ OkF (IntKind.i64.wrap (IntKind.i64.wrap (IntKind.i64.wrap (wetS x4_ cw * IntKind.i64.wrap (to - maxI top x6_.fst)) * (sideS x5_).fst) / x1_.fst * cl) / (1000:Int)) (upS (IntKind.i64.wrap (upS x8_ x1_.fst * ch)) (1000:Int))) (.cond (wildS x2_) (.leaf (Sum.inr (Exit.exit (0:Nat),Lay.st L_fo1n2_1 (U_fo1 o) ((),(),false,())))) (.need ((List.length aft + List.length [(maxI top x6_.fst,(x2_.fst,x2_.snd.fst),x2_.snd.snd)]) * (40:Nat) ≤ (140737488355328:Nat)) (.leaf (Sum.inl ((),ks,legOf ks to,maxI top x6_.fst,i,top,l,n,j,sl,px,py,pz,pl,cm,cw,cl,ch,cb,(),(),(),(),x2_.fst,x2_.snd.fst,x2_.snd.snd.fst,x2_.snd.snd.snd,(),(),legOf ks to,aft ++ [(maxI top x6_.fst,(x2_.fst,x2_.snd.fst),x2_.snd.snd)],bef ++ [(lo,hi)],()))))))))))))))) (.need ((List.length bef + List.length [(lo,hi)]) * (16:Nat) ≤ (140737488355328:Nat)) (.need ((0:Int) < x1_.fst ∧ (-9223372036854775808:Int) < IntKind.i64.wrap (IntKind.i64.wrap (wetS x4_ cw * IntKind.i64.wrap (to - maxI top x6_.fst)) * x5_.snd.snd) ∧ IntKind.i64.wrap (IntKind.i64.wrap (wetS x4_ cw * IntKind.i64.wrap (to - maxI top x6_.fst)) * x5_.snd.snd) ≤ (9223372036854775807:Int)) (.need ((0:Int) < x1_.fst ∧ (-9223372036854775808:Int) < IntKind.i64.wrap (IntKind.i64.wrap (wetS x4_ cw * IntKind.i64.wrap (to - maxI top x6_.fst)) * x5_.snd.snd) ∧ IntKind.i64.wrap (IntKind.i64.wrap (wetS x4_ cw * IntKind.i64.wrap (to - maxI top x6_.fst)) * x5_.snd.snd) < (9223372036854775807:Int)) (.cond (wildS (IntKind.i64.wrap (lo + IntKind.i64.wrap (IntKind.i64.wrap (wetS x4_ cw * IntKind.i64.wrap (to - maxI top x6_.fst)) * x5_.snd.snd) / x1_.fst),IntKind.i64.wrap (hi + upS x9_ x1_.fst),tl,th)) (.leaf (Sum.inr (Exit.exit (0:Nat),Lay.st L_fo1n2_1 (U_fo1 o) ((),(),false,())))) (.need ((0:Int) < x1_.fst ∧ (-9223372036854775808:Int) < IntKind.i64.wrap (IntKind.i64.wrap (wetS x4_ cw * IntKind.i64.wrap (to - maxI top x6_.fst)) * (sideS x5_).fst) ∧ IntKind.i64.wrap (IntKind.i64.wrap (wetS x4_ cw * IntKind.i64.wrap (to - maxI top x6_.fst)) * (sideS x5_).fst) ≤ (9223372036854775807:Int)) (.need ((0:Int) < (1000:Int) ∧ (-9223372036854775808:Int) < IntKind.i64.wrap (IntKind.i64.wrap (IntKind.i64.wrap (wetS x4_ cw * IntKind.i64.wrap (to - maxI top x6_.fst)) * (sideS x5_).fst) / x1_.fst * cl) ∧ IntKind.i64.wrap (IntKind.i64.wrap (IntKind.i64.wrap (wetS x4_ cw * IntKind.i64.wrap (to - maxI top x6_.fst)) * (sideS x5_).fst) / x1_.fst * cl) ≤ (9223372036854775807:Int)) (.need ((0:Int) < x1_.fst ∧ (-9223372036854775808:Int) < IntKind.i64.wrap (IntKind.i64.wrap (wetS x4_ cw * IntKind.i64.wrap (to - maxI top x6_.fst)) * (sideS x5_).snd) ∧ IntKind.i64.wrap (IntKind.i64.wrap (wetS x4_ cw * IntKind.i64.wrap (to - maxI top x6_.fst)) * (sideS x5_).snd) < (9223372036854775807:Int)) (.need ((0:Int) < (1000:Int) ∧ (-9223372036854775808:Int) < IntKind.i64.wrap (upS x8_ x1_.fst * ch) ∧ IntKind.i64.wrap (upS x8_ x1_.fst * ch) < (9223372036854775807:Int)) (.need (OkX (IntKind.i64.wrap (lo + IntKind.i64.wrap (IntKind.i64.wrap (wetS x4_ cw * IntKind.i64.wrap (to - maxI top x6_.fst)) * x5_.snd.snd) / x1_.fst)) (IntKind.i64.wrap (hi + upS x9_ x1_.fst)) ∧ OkF (IntKind.i64.wrap (IntKind.i64.wrap (IntKind.i64.wrap (wetS x4_ cw * IntKind.i64.wrap (to - maxI top x6_.fst)) * (sideS x5_).fst) / x1_.fst * cl) / (1000:Int)) (upS (IntKind.i64.wrap (upS x8_ x1_.fst * ch)) (1000:Int))) (.cond (wildS x2_) (.leaf (Sum.inr (Exit.exit (0:Nat),Lay.st L_fo1n2_1 (U_fo1 o) ((),(),false,())))) (.need ((List.length aft + List.length [(maxI top x6_.fst,(x2_.fst,x2_.snd.fst),x2_.snd.snd)]) * (40:Nat) ≤ (140737488355328:Nat)) (.leaf (Sum.inl ((),ks,legOf ks to,maxI top x6_.fst,i,top,l,n,j,sl,px,py,pz,pl,cm,cw,cl,ch,cb,(),(),(),(),x2_.fst,x2_.snd.fst,x2_.snd.snd.fst,x2_.snd.snd.snd,(),(),legOf ks to,aft ++ [(maxI top x6_.fst,(x2_.fst,x2_.snd.fst),x2_.snd.snd)],bef ++ [(lo,hi)],()))))))))))))))))))) (.leaf (Sum.inr (Exit.exit (2:Nat),Lay.st L_fo1n2_0 (U_fo1 o) ((),ks,g,to,l,n,j,sl,px,py,pz,pl,cm,cw,cl,ch,cb,(),(),(),(),lo,hi,tl,th,(),(),below,aft,bef,())))):=by
  subst hx3_; subst hx2_; subst hx9_; subst hx8_; subst hx7_; subst hx6_; subst hx1_; subst hx5_; subst hx4_; kernel_rfl
def inv_fo1n2 (o:A_fo1):Unit × List K2 × Int × Int × Int × Int × List Tb × Int × Int × List Tb × Int × Int × Int × List V × Int × Int × Int × Int × Int × Unit × Unit × Unit × Unit × Int × Int × Int × Int × Unit × Unit × Int × List Hg × List R2 × Unit → Prop:=fun (_,ks,g,to,i,top,l,n,j,sl,px,py,pz,pl,cm,cw,cl,ch,cb,_,_,_,_,lo,hi,tl,th,_,_,below,aft,bef,_) => EnvOk sl ((px,py,pz),pl) (cm,cw,(cl,ch),cb) ∧ ks = knots (px,py,pz) pl ∧ cm = 1 ∧ 0 ≤ i ∧ i < sl.length ∧ 0 ≤ top ∧ top ≤ to ∧ to ≤ lenS ((px,py,pz),pl) ∧ to ≤ 1048576 ∧ LegAt ks to g ∧ StOk ((px,py,pz),pl) ks to below (lo,hi,tl,th) ∧ (aft.length:Int) + to ≤ 1048576 ∧ (bef.length:Int) + to ≤ 1048576
def O_fo1n2 (o:A_fo1):Unit × List K2 × Int × Int × Int × Int × List Tb × Int × Int × List Tb × Int × Int × Int × List V × Int × Int × Int × Int × Int × Unit × Unit × Unit × Unit × Int × Int × Int × Int × Unit × Unit × Int × List Hg × List R2 × Unit → Tree (Exit × St):=fun (_,ks,g,to,i,top,l,n,j,sl,px,py,pz,pl,cm,cw,cl,ch,cb,_,_,_,_,lo,hi,tl,th,_,_,below,aft,bef,_) => .cond (runF sl ((px,py,pz),pl) (cm,cw,(cl,ch),cb) below (lo,hi,tl,th) aft bef (tubeS ks i top to)).1 (.leaf (.exit 2,L_fo1n2_0.st (U_fo1 o) ((),ks,endLeg g (tubeS ks i top to),top,l,n,j,sl,px,py,pz,pl,cm,cw,cl,ch,cb,(),(),(),(),(runF sl ((px,py,pz),pl) (cm,cw,(cl,ch),cb) below (lo,hi,tl,th) aft bef (tubeS ks i top to)).2.2.1.1,(runF sl ((px,py,pz),pl) (cm,cw,(cl,ch),cb) below (lo,hi,tl,th) aft bef (tubeS ks i top to)).2.2.1.2.1,(runF sl ((px,py,pz),pl) (cm,cw,(cl,ch),cb) below (lo,hi,tl,th) aft bef (tubeS ks i top to)).2.2.1.2.2.1,(runF sl ((px,py,pz),pl) (cm,cw,(cl,ch),cb) below (lo,hi,tl,th) aft bef (tubeS ks i top to)).2.2.1.2.2.2,(),(),(runF sl ((px,py,pz),pl) (cm,cw,(cl,ch),cb) below (lo,hi,tl,th) aft bef (tubeS ks i top to)).2.1,(runF sl ((px,py,pz),pl) (cm,cw,(cl,ch),cb) below (lo,hi,tl,th) aft bef (tubeS ks i top to)).2.2.2.1,(runF sl ((px,py,pz),pl) (cm,cw,(cl,ch),cb) below (lo,hi,tl,th) aft bef (tubeS ks i top to)).2.2.2.2,()))) (.leaf (.exit 0,L_fo1n2_1.st (U_fo1 o) ((),(),false,())))
def R_fo1n2 (o:A_fo1):LRun:=runOf 65 L_fo1n2 (fun x => x) (inv_fo1n2 o) (O_fo1n2 o)
set_option maxHeartbeats 4000000 in
theorem K_fo1n2 (o:A_fo1):LoopOk P (Y_fo1 o) 65 none (U_fo1 o) C_fo1n2 (R_fo1n2 o):=by
  refine loop_of hm (cx:=[]) [(4,R_fo1n4 o)] (xl:=X_fo1n2) (α:=Unit × List K2 × Int × Int × Int × Int × List Tb × Int × Int × List Tb × Int × Int × Int × List V × Int × Int × Int × Int × Int × Unit × Unit × Unit × Unit × Int × Int × Int × Int × Unit × Unit × Int × List Hg × List R2 × Unit) (fun x => x) (fun (_,ks,g,to,i,top,_) => (to - top).toNat) (fun _ => rfl) (by kernel_rfl) (by kernel_rfl) ?_ (by kernel_rfl) ⟨K_fo1n4 o,trivial⟩ ?_
  · intro e S L' h
    unfold X_fo1n2 at h
    split at h <;> first | (cases h; done) | (cases h; kernel_rfl) | (rcases bif_some h with h | h <;> cases h <;> kernel_rfl)
  · rintro ⟨⟨⟩,ks,g,to,i,top,l,n,j,sl,px,py,pz,pl,cm,cw,cl,ch,cb,⟨⟩,⟨⟩,⟨⟩,⟨⟩,lo,hi,tl,th,⟨⟩,⟨⟩,below,aft,bef,⟨⟩⟩ hinv Q hQ
    refine hold_of_eq (B_fo1n2 o ks g to i top l n j sl px py pz pl cm cw cl ch cb lo hi tl th below aft bef _ rfl _ rfl _ rfl _ rfl _ rfl _ rfl _ rfl _ rfl _ rfl) ?_
    obtain ⟨henv,hks,rfl,i0,i1,h0,h1,h2,h3,hg,hst,ha,hb⟩:=hinv
    have hd:Down ks (lenS ((px,py,pz),pl)):=by rw [hks]; exact fits_down henv.fits
    have hkl:(ks.length:Int) = pl.length + 1:=by
      rw [hks]
      have:=knots_length (px,py,pz) pl
      omega
    have hp20:pl.length ≤ 20:=checkS_len (fitsS_ok henv.fits).2.1
    unfold O_fo1n2 at hQ
    dsimp only at hQ
    have hk:∀ e:Int,(ks.getD e.toNat (0,0)).1 = knotA ks e:=fun _ => rfl
    rw [hk]
    refine ⟨fun c1 => ?_,fun c1 => ?_⟩
    · have c1:to > top:=of_decide_eq_true c1
      have t0:0 < to:=by omega
      obtain ⟨l1,l2,l3,l4⟩:=legOf_ok hd t0 h2
      have hm:top ≤ maxI top (knotA ks (legOf ks to)) ∧ maxI top (knotA ks (legOf ks to)) < to ∧ knotA ks (legOf ks to) ≤ maxI top (knotA ks (legOf ks to)):=by rw [maxI_eq]; omega
      rw [tubeS_step hd i h0 c1 h2,endLeg_cons,runF_cons] at hQ
      generalize maxI top (knotA ks (legOf ks to)) = fr at *
      have hpc:=henv.pc' hks i0 i1 t0 h2 h3 (show 0 ≤ fr by omega) hm.2.1
      obtain ⟨hB,ho1⟩:=step1_ok' henv hks hst t0 h2 i fr
      have hnext:=step_next' henv hks hst t0 h2 h3 i0 i1 (show 0 ≤ fr by omega) hm.2.1 hm.2.2
      obtain ⟨hF,hw1,hw2,hd1,hu1⟩:=hpc.rub henv.case.mu
      have hwp:=hpc.wpos
      have hwm:=hpc.wmax
      have hleg:=hpc.leg
      have hfair:=hpc.tube
      have hmu:=henv.case.mu
      have eW:pcW sl (1,cw,(cl,ch),cb) (i,legOf ks to,fr,to) = wetS (sl.getD i.toNat (0,0,0,0,0,0,0,0,0)) cw * (to - fr):=rfl
      have eV:pcV ((px,py,pz),pl) (i,legOf ks to,fr,to) = pl.getD (legOf ks to).toNat (0,0,0):=rfl
      have eT:pcT sl (i,legOf ks to,fr,to) = sl.getD i.toNat (0,0,0,0,0,0,0,0,0):=rfl
      dsimp only at hQ hB hnext
      have hs1:step1 sl ((px,py,pz),pl) (1,cw,(cl,ch),cb) below (i,legOf ks to,fr,to) (lo,hi,tl,th) = if below ≥ 0 ∧ below ≠ legOf ks to then bentS 1 (cl,ch) (bendV (pl.getD (legOf ks to).toNat (0,0,0)) (pl.getD below.toNat (0,0,0))) (sl.getD i.toNat (0,0,0,0,0,0,0,0,0)).2.2.2.2.1 (lo,hi,tl,th) else (lo,hi,tl,th):=rfl
      have hs2:∀ x,step2 sl ((px,py,pz),pl) (1,cw,(cl,ch),cb) (i,legOf ks to,fr,to) x = (x.1 + pcW sl (1,cw,(cl,ch),cb) (i,legOf ks to,fr,to) * (pl.getD (legOf ks to).toNat (0,0,0)).2.2 / (wholeS (pl.getD (legOf ks to).toNat (0,0,0))).1,x.2.1 + upS (pcW sl (1,cw,(cl,ch),cb) (i,legOf ks to,fr,to) * (pl.getD (legOf ks to).toNat (0,0,0)).2.2) (wholeS (pl.getD (legOf ks to).toNat (0,0,0))).1,x.2.2):=fun _ => rfl
      have hs3:∀ x,step3 sl ((px,py,pz),pl) (1,cw,(cl,ch),cb) (i,legOf ks to,fr,to) x = rubS 1 (pcW sl (1,cw,(cl,ch),cb) (i,legOf ks to,fr,to) * (sideS (pl.getD (legOf ks to).toNat (0,0,0))).1 / (wholeS (pl.getD (legOf ks to).toNat (0,0,0))).1 * cl / 1000) (upS (upS (pcW sl (1,cw,(cl,ch),cb) (i,legOf ks to,fr,to) * (sideS (pl.getD (legOf ks to).toNat (0,0,0))).2) (wholeS (pl.getD (legOf ks to).toNat (0,0,0))).1 * ch) 1000) (sl.getD i.toNat (0,0,0,0,0,0,0,0,0)).2.2.2.2.1 x:=fun _ => rfl
      have hF' : OkF (pcW sl (1,cw,(cl,ch),cb) (i,legOf ks to,fr,to) * (sideS (pl.getD (legOf ks to).toNat (0,0,0))).1 / (wholeS (pl.getD (legOf ks to).toNat (0,0,0))).1 * cl / 1000) (upS (upS (pcW sl (1,cw,(cl,ch),cb) (i,legOf ks to,fr,to) * (sideS (pl.getD (legOf ks to).toNat (0,0,0))).2) (wholeS (pl.getD (legOf ks to).toNat (0,0,0))).1 * ch) 1000):=hF
      rw [eV] at hw1 hw2 hd1 hu1 hleg
      rw [eT] at hfair
      have eR:=root_leg hleg
      have hz:=leg_z hleg
      have hn:=hleg.2
      unfold vdot at eR
      rw [W_id (n:=to - fr) (by omega) (by omega)]
      rw [← eW]
      generalize pcW sl (1,cw,(cl,ch),cb) (i,legOf ks to,fr,to) = w at *
      generalize pl.getD (legOf ks to).toNat (0,0,0) = v at *
      generalize sl.getD i.toNat (0,0,0,0,0,0,0,0,0) = t at *
      rw [eR]
      have hwz:=mulB (a:=w) (b:=v.2.2) (A:=4194304000000) (B:=131072) (by omega) hz
      have hwzd:=div_rng (x:=w * v.2.2) (b:=(wholeS v).1) (M:=549755813888000000) (by omega) (by decide) (by omega) (by omega)
      have hwzu : -549755813888000000 ≤ upS (w * v.2.2) (wholeS v).1 ∧ upS (w * v.2.2) (wholeS v).1 ≤ 549755813888000000:=by
        have:=div_rng (x:=-(w * v.2.2)) (b:=(wholeS v).1) (M:=549755813888000000) (by omega) (by decide) (by omega) (by omega)
        unfold upS; omega
      obtain ⟨hm1,hm2,hm3⟩:=hmu
      dsimp only at hm1 hm2 hm3
      have hcl:=mul_rng (a:=w * (sideS v).1 / (wholeS v).1) (b:=cl) (A:=8388608000000) (B:=600) hd1.1 hd1.2 hm1 (by omega)
      have hch:=mul_rng (a:=upS (w * (sideS v).2) (wholeS v).1) (b:=ch) (A:=8388608000000) (B:=600) hu1.1 hu1.2 (by omega) hm3
      rw [W_id (n:=w) (by omega) (by omega),W_id (n:=w * v.2.2) (by omega) (by omega),W_id (n:=w * (sideS v).1) (by omega) (by omega),W_id (n:=w * (sideS v).1 / (wholeS v).1 * cl) (by omega) (by omega),W_id (n:=w * (sideS v).2) (by omega) (by omega),W_id (n:=upS (w * (sideS v).2) (wholeS v).1 * ch) (by omega) (by omega)]
      generalize w * (sideS v).1 / (wholeS v).1 * cl / 1000 = fa at *
      generalize upS (upS (w * (sideS v).2) (wholeS v).1 * ch) 1000 = fb at *
      refine ⟨⟨_,hd,t0,h2,hg,by omega⟩,⟨l1,by omega⟩,⟨i0,i1⟩,⟨l1,by omega⟩,?_⟩
      obtain ⟨hx1,hx2,hx3⟩:=hst.x
      dsimp only at hx1 hx2 hx3
      have calm0:=calm hst.x
      refine ⟨fun c2 => ?_,fun c2 => ?_⟩
      · have c2:below ≥ 0:=of_decide_eq_true c2
        refine ⟨fun c3 => ?_,fun c3 => ?_⟩
        · have c3:below ≠ legOf ks to:=by simpa using c3
          have hBv:=hB c2 c3
          rw [if_pos ⟨c2,c3⟩] at hs1
          rw [hs1] at hQ hnext ho1
          refine ⟨⟨c2,hst.hi⟩,⟨⟨hx1,hx2,hx3⟩,⟨hm1,hm2,hm3⟩,hBv⟩,fun c4 => ?_,fun c4 => ?_⟩
          · rw [if_pos c4] at hQ
            exact hQ.2 rfl
          · have w1:¬ wildS (bentS 1 (cl,ch) (bendV v (pl.getD below.toNat (0,0,0))) t.2.2.2.2.1 (lo,hi,tl,th)) = true:=by rw [c4]; exact Bool.false_ne_true
            simp only [hs2,hs3] at hQ hnext
            clear hs1 hs2 hs3 hBv hB hF c4
            generalize bentS 1 (cl,ch) (bendV v (pl.getD below.toNat (0,0,0))) t.2.2.2.2.1 (lo,hi,tl,th) = X at *
            obtain ⟨p1,p2,p3,p4⟩:=X
            obtain ⟨hy1,hy2,hy3⟩:=tame ho1 w1
            dsimp only at hQ hnext hy1 hy2 hy3 ⊢
            rw [W_id (n:=p1 + w * v.2.2 / (wholeS v).1) (by omega) (by omega),W_id (n:=p2 + upS (w * v.2.2) (wholeS v).1) (by omega) (by omega)]
            have o2:p1 + w * v.2.2 / (wholeS v).1 ≤ p2 + upS (w * v.2.2) (wholeS v).1:=by
              have:=floor_ceil (w * v.2.2) (wholeS v).1 (by omega)
              omega
            generalize p1 + w * v.2.2 / (wholeS v).1 = B1 at *
            generalize p2 + upS (w * v.2.2) (wholeS v).1 = B2 at *
            refine ⟨by simp only [List.length_cons,List.length_nil]; omega,⟨by omega,by omega,by omega⟩,⟨by omega,by omega,by omega⟩,fun c5 => ?_,fun c5 => ?_⟩
            · rw [if_neg w1,if_pos c5] at hQ
              exact hQ.2 rfl
            · have c5' : ¬ wildS (B1,B2,p3,p4) = true:=by rw [c5]; exact Bool.false_ne_true
              have hX2:OkX B1 B2:=tame (x:=(B1,B2,p3,p4)) o2 c5'
              refine ⟨⟨by omega,by omega,by omega⟩,⟨by decide,by omega,by omega⟩,⟨by omega,by omega,by omega⟩,⟨by decide,by omega,by omega⟩,⟨hX2,hF'⟩,fun c6 => ?_,fun c6 => ?_⟩
              · rw [if_neg w1,if_neg c5',if_pos c6] at hQ
                exact hQ.2 rfl
              · have c6' : ¬ wildS (rubS 1 fa fb t.2.2.2.2.1 (B1,B2,p3,p4)) = true:=by rw [c6]; exact Bool.false_ne_true
                have hst':=hnext c6'
                rw [if_neg w1,if_neg c5',if_neg c6'] at hQ
                generalize rubS 1 fa fb t.2.2.2.2.1 (B1,B2,p3,p4) = Y at *
                obtain ⟨y1,y2,y3,y4⟩:=Y
                exact ⟨by simp only [List.length_cons,List.length_nil]; omega,⟨⟨henv,hks,rfl,i0,i1,h0,hm.1,by omega,by omega,⟨l1,l2,fun hp => legOf_mono hd hp (by omega) h2⟩,hst',by simp only [List.length_append,List.length_cons,List.length_nil]; omega,by simp only [List.length_append,List.length_cons,List.length_nil]; omega⟩,by show (fr - top).toNat < (to - top).toNat; omega⟩,hQ⟩
        · have c3:below = legOf ks to:=by simpa using c3
          have w1:=calm0
          rw [if_neg (by omega)] at hs1
          rw [hs1] at hQ hnext
          simp only [hs2,hs3] at hQ hnext
          clear hs1 hs2 hs3 hB hF
          try dsimp only at hQ hnext
          rw [W_id (n:=lo + w * v.2.2 / (wholeS v).1) (by omega) (by omega),W_id (n:=hi + upS (w * v.2.2) (wholeS v).1) (by omega) (by omega)]
          have o2:lo + w * v.2.2 / (wholeS v).1 ≤ hi + upS (w * v.2.2) (wholeS v).1:=by
            have:=floor_ceil (w * v.2.2) (wholeS v).1 (by omega)
            omega
          generalize lo + w * v.2.2 / (wholeS v).1 = B1 at *
          generalize hi + upS (w * v.2.2) (wholeS v).1 = B2 at *
          refine ⟨by simp only [List.length_cons,List.length_nil]; omega,⟨by omega,by omega,by omega⟩,⟨by omega,by omega,by omega⟩,fun c5 => ?_,fun c5 => ?_⟩
          · rw [if_neg w1,if_pos c5] at hQ
            exact hQ.2 rfl
          · have c5' : ¬ wildS (B1,B2,tl,th) = true:=by rw [c5]; exact Bool.false_ne_true
            have hX2:OkX B1 B2:=tame (x:=(B1,B2,tl,th)) o2 c5'
            refine ⟨⟨by omega,by omega,by omega⟩,⟨by decide,by omega,by omega⟩,⟨by omega,by omega,by omega⟩,⟨by decide,by omega,by omega⟩,⟨hX2,hF'⟩,fun c6 => ?_,fun c6 => ?_⟩
            · rw [if_neg w1,if_neg c5',if_pos c6] at hQ
              exact hQ.2 rfl
            · have c6' : ¬ wildS (rubS 1 fa fb t.2.2.2.2.1 (B1,B2,tl,th)) = true:=by rw [c6]; exact Bool.false_ne_true
              have hst':=hnext c6'
              rw [if_neg w1,if_neg c5',if_neg c6'] at hQ
              generalize rubS 1 fa fb t.2.2.2.2.1 (B1,B2,tl,th) = Y at *
              obtain ⟨y1,y2,y3,y4⟩:=Y
              exact ⟨by simp only [List.length_cons,List.length_nil]; omega,⟨⟨henv,hks,rfl,i0,i1,h0,hm.1,by omega,by omega,⟨l1,l2,fun hp => legOf_mono hd hp (by omega) h2⟩,hst',by simp only [List.length_append,List.length_cons,List.length_nil]; omega,by simp only [List.length_append,List.length_cons,List.length_nil]; omega⟩,by show (fr - top).toNat < (to - top).toNat; omega⟩,hQ⟩
      · have c2:¬ below ≥ 0:=of_decide_eq_false c2
        have w1:=calm0
        rw [if_neg (by omega)] at hs1
        rw [hs1] at hQ hnext
        simp only [hs2,hs3] at hQ hnext
        clear hs1 hs2 hs3 hB hF
        try dsimp only at hQ hnext
        rw [W_id (n:=lo + w * v.2.2 / (wholeS v).1) (by omega) (by omega),W_id (n:=hi + upS (w * v.2.2) (wholeS v).1) (by omega) (by omega)]
        have o2:lo + w * v.2.2 / (wholeS v).1 ≤ hi + upS (w * v.2.2) (wholeS v).1:=by
          have:=floor_ceil (w * v.2.2) (wholeS v).1 (by omega)
          omega
        generalize lo + w * v.2.2 / (wholeS v).1 = B1 at *
        generalize hi + upS (w * v.2.2) (wholeS v).1 = B2 at *
        refine ⟨by simp only [List.length_cons,List.length_nil]; omega,⟨by omega,by omega,by omega⟩,⟨by omega,by omega,by omega⟩,fun c5 => ?_,fun c5 => ?_⟩
        · rw [if_neg w1,if_pos c5] at hQ
          exact hQ.2 rfl
        · have c5' : ¬ wildS (B1,B2,tl,th) = true:=by rw [c5]; exact Bool.false_ne_true
          have hX2:OkX B1 B2:=tame (x:=(B1,B2,tl,th)) o2 c5'
          refine ⟨⟨by omega,by omega,by omega⟩,⟨by decide,by omega,by omega⟩,⟨by omega,by omega,by omega⟩,⟨by decide,by omega,by omega⟩,⟨hX2,hF'⟩,fun c6 => ?_,fun c6 => ?_⟩
          · rw [if_neg w1,if_neg c5',if_pos c6] at hQ
            exact hQ.2 rfl
          · have c6' : ¬ wildS (rubS 1 fa fb t.2.2.2.2.1 (B1,B2,tl,th)) = true:=by rw [c6]; exact Bool.false_ne_true
            have hst':=hnext c6'
            rw [if_neg w1,if_neg c5',if_neg c6'] at hQ
            generalize rubS 1 fa fb t.2.2.2.2.1 (B1,B2,tl,th) = Y at *
            obtain ⟨y1,y2,y3,y4⟩:=Y
            exact ⟨by simp only [List.length_cons,List.length_nil]; omega,⟨⟨henv,hks,rfl,i0,i1,h0,hm.1,by omega,by omega,⟨l1,l2,fun hp => legOf_mono hd hp (by omega) h2⟩,hst',by simp only [List.length_append,List.length_cons,List.length_nil]; omega,by simp only [List.length_append,List.length_cons,List.length_nil]; omega⟩,by show (fr - top).toNat < (to - top).toNat; omega⟩,hQ⟩
    · have c1:¬ to > top:=of_decide_eq_false c1
      have e:to = top:=by omega
      subst e
      rw [tubeS_nil _ _ _ (Int.le_refl _),endLeg_nil,runF_nil] at hQ
      exact hQ.1 rfl
def L_fo1nl:Lay:={ slots:=[(0,.yld 990),(4,.val tKs),(5,.val tI),(6,.val tI),(21,.val tTs),(22,.val tI),(23,.val tI)],boxes:=[(4205,[.val tTs]),(5205,[.val tI,.val tI,.val tI,.val tVs]),(6205,[.val tI,.val tI,.val tI,.val tI,.val tI]),(7205,[.any]),(8205,[.any]),(9205,[.any]),(10205,[.ptr 23205 0]),(23205,[.val tI,.val tI,.val tI,.val tI]),(11205,[.fn 106,.fn 110]),(12205,[.val tI]),(13205,[.row 67 tHg]),(14205,[.row 31 tPart])],recs:=[(990,.ready)] }
def L_fo1nl_0:Lay:={ slots:=[],boxes:=[(7205,[.any]),(8205,[.any]),(9205,[.any]),(13205,[.row 67 tHg]),(14205,[.row 31 tPart])],recs:=[(990,.ready)] }
def L_fo1nl_1:Lay:={ slots:=[],boxes:=[(7205,[.nils]),(8205,[.nils]),(9205,[.val .bool])],recs:=[(990,.done .ret)] }
def X_fo1nl:Exit → St → Option Lay
  | .exit 0,S => bif recReady 990 S then some L_fo1nl_0 else some L_fo1nl_1
  | _,_ => none
abbrev C_fo1nl:Code:=loopC (bodyOf Tryz.f98) 0
theorem B_fo1nl (o:A_fo1) (ks:List K2) (g to:Int) (l:List Tb) (n j:Int) (sl:List Tb) (px py pz:Int) (pl:List V) (cm cw cl ch cb:Int) (lo hi tl th:Int) (below:Int) (aft:List Hg) (bef:List R2):loopBodyA (P:=P) [] (lpOf [(2,R_fo1n2 o)]) (Y_fo1 o) 65 (U_fo1 o) (inner C_fo1nl) L_fo1nl X_fo1nl (α:=Unit × List K2 × Int × Int × List Tb × Int × Int × List Tb × Int × Int × Int × List V × Int × Int × Int × Int × Int × Unit × Unit × Unit × Unit × Int × Int × Int × Int × Unit × Unit × Int × List Hg × List R2 × Unit) (fun x => x) (fun x => x) ((),ks,g,to,l,n,j,sl,px,py,pz,pl,cm,cw,cl,ch,cb,(),(),(),(),lo,hi,tl,th,(),(),below,aft,bef,()) =
  Tree.cond (decide (j < n)) (.need ((0:Int) ≤ j ∧ j < (l.length:Int)) (.need (inv_fo1n2 o ((),ks,g,to,j,IntKind.i64.wrap (to - IntKind.i64.wrap ((List.getD l (Int.toNat j) (0,0,0,0,0,0,0,0,0)).fst * (List.getD l (Int.toNat j) (0,0,0,0,0,0,0,0,0)).snd.fst)),l,n,j,sl,px,py,pz,pl,cm,cw,cl,ch,cb,(),(),(),(),lo,hi,tl,th,(),(),below,aft,bef,())) (.cond (runF sl ((px,py,pz),pl) (cm,cw,(cl,ch),cb) below (lo,hi,tl,th) aft bef (tubeS ks j (IntKind.i64.wrap (to - IntKind.i64.wrap ((List.getD l (Int.toNat j) (0,0,0,0,0,0,0,0,0)).fst * (List.getD l (Int.toNat j) (0,0,0,0,0,0,0,0,0)).snd.fst))) to)).fst (.leaf (Sum.inl ((),ks,endLeg g (tubeS ks j (IntKind.i64.wrap (to - IntKind.i64.wrap ((List.getD l (Int.toNat j) (0,0,0,0,0,0,0,0,0)).fst * (List.getD l (Int.toNat j) (0,0,0,0,0,0,0,0,0)).snd.fst))) to),IntKind.i64.wrap (to - IntKind.i64.wrap ((List.getD l (Int.toNat j) (0,0,0,0,0,0,0,0,0)).fst * (List.getD l (Int.toNat j) (0,0,0,0,0,0,0,0,0)).snd.fst)),l,n,IntKind.i64.wrap (j + (1:Int)),sl,px,py,pz,pl,cm,cw,cl,ch,cb,(),(),(),(),(runF sl ((px,py,pz),pl) (cm,cw,(cl,ch),cb) below (lo,hi,tl,th) aft bef (tubeS ks j (IntKind.i64.wrap (to - IntKind.i64.wrap ((List.getD l (Int.toNat j) (0,0,0,0,0,0,0,0,0)).fst * (List.getD l (Int.toNat j) (0,0,0,0,0,0,0,0,0)).snd.fst))) to)).snd.snd.fst.fst,(runF sl ((px,py,pz),pl) (cm,cw,(cl,ch),cb) below (lo,hi,tl,th) aft bef (tubeS ks j (IntKind.i64.wrap (to - IntKind.i64.wrap ((List.getD l (Int.toNat j) (0,0,0,0,0,0,0,0,0)).fst * (List.getD l (Int.toNat j) (0,0,0,0,0,0,0,0,0)).snd.fst))) to)).snd.snd.fst.snd.fst,(runF sl ((px,py,pz),pl) (cm,cw,(cl,ch),cb) below (lo,hi,tl,th) aft bef (tubeS ks j (IntKind.i64.wrap (to - IntKind.i64.wrap ((List.getD l (Int.toNat j) (0,0,0,0,0,0,0,0,0)).fst * (List.getD l (Int.toNat j) (0,0,0,0,0,0,0,0,0)).snd.fst))) to)).snd.snd.fst.snd.snd.fst,(runF sl ((px,py,pz),pl) (cm,cw,(cl,ch),cb) below (lo,hi,tl,th) aft bef (tubeS ks j (IntKind.i64.wrap (to - IntKind.i64.wrap ((List.getD l (Int.toNat j) (0,0,0,0,0,0,0,0,0)).fst * (List.getD l (Int.toNat j) (0,0,0,0,0,0,0,0,0)).snd.fst))) to)).snd.snd.fst.snd.snd.snd,(),(),(runF sl ((px,py,pz),pl) (cm,cw,(cl,ch),cb) below (lo,hi,tl,th) aft bef (tubeS ks j (IntKind.i64.wrap (to - IntKind.i64.wrap ((List.getD l (Int.toNat j) (0,0,0,0,0,0,0,0,0)).fst * (List.getD l (Int.toNat j) (0,0,0,0,0,0,0,0,0)).snd.fst))) to)).snd.fst,(runF sl ((px,py,pz),pl) (cm,cw,(cl,ch),cb) below (lo,hi,tl,th) aft bef (tubeS ks j (IntKind.i64.wrap (to - IntKind.i64.wrap ((List.getD l (Int.toNat j) (0,0,0,0,0,0,0,0,0)).fst * (List.getD l (Int.toNat j) (0,0,0,0,0,0,0,0,0)).snd.fst))) to)).snd.snd.snd.fst,(runF sl ((px,py,pz),pl) (cm,cw,(cl,ch),cb) below (lo,hi,tl,th) aft bef (tubeS ks j (IntKind.i64.wrap (to - IntKind.i64.wrap ((List.getD l (Int.toNat j) (0,0,0,0,0,0,0,0,0)).fst * (List.getD l (Int.toNat j) (0,0,0,0,0,0,0,0,0)).snd.fst))) to)).snd.snd.snd.snd,()))) (.leaf (Sum.inr (Exit.exit (0:Nat),Lay.st L_fo1nl_1 (U_fo1 o) ((),(),false,()))))))) (.leaf (Sum.inr (Exit.exit (0:Nat),Lay.st L_fo1nl_0 (U_fo1 o) ((),(),(),aft,bef,())))):=by kernel_rfl
def inv_fo1nl (o:A_fo1):Unit × List K2 × Int × Int × List Tb × Int × Int × List Tb × Int × Int × Int × List V × Int × Int × Int × Int × Int × Unit × Unit × Unit × Unit × Int × Int × Int × Int × Unit × Unit × Int × List Hg × List R2 × Unit → Prop:=fun (_,ks,g,to,l,n,j,sl,px,py,pz,pl,cm,cw,cl,ch,cb,_,_,_,_,lo,hi,tl,th,_,_,below,aft,bef,_) => EnvOk sl ((px,py,pz),pl) (cm,cw,(cl,ch),cb) ∧ ks = knots (px,py,pz) pl ∧ cm = 1 ∧ l = sl ∧ n = l.length ∧ 0 ≤ j ∧ j ≤ n ∧ to = sumT (l.drop j.toNat) ∧ to ≤ lenS ((px,py,pz),pl) ∧ to ≤ 1048576 ∧ LegAt ks to g ∧ StOk ((px,py,pz),pl) ks to below (lo,hi,tl,th) ∧ (aft.length:Int) + to ≤ 1048576 ∧ (bef.length:Int) + to ≤ 1048576
def O_fo1nl (o:A_fo1):Unit × List K2 × Int × Int × List Tb × Int × Int × List Tb × Int × Int × Int × List V × Int × Int × Int × Int × Int × Unit × Unit × Unit × Unit × Int × Int × Int × Int × Unit × Unit × Int × List Hg × List R2 × Unit → Tree (Exit × St):=fun (_,ks,g,to,l,n,j,sl,px,py,pz,pl,cm,cw,cl,ch,cb,_,_,_,_,lo,hi,tl,th,_,_,below,aft,bef,_) => .cond (runF sl ((px,py,pz),pl) (cm,cw,(cl,ch),cb) below (lo,hi,tl,th) aft bef (pcsL ks j to (l.drop j.toNat))).1 (.leaf (.exit 0,L_fo1nl_0.st (U_fo1 o) ((),(),(),(runF sl ((px,py,pz),pl) (cm,cw,(cl,ch),cb) below (lo,hi,tl,th) aft bef (pcsL ks j to (l.drop j.toNat))).2.2.2.1,(runF sl ((px,py,pz),pl) (cm,cw,(cl,ch),cb) below (lo,hi,tl,th) aft bef (pcsL ks j to (l.drop j.toNat))).2.2.2.2,()))) (.leaf (.exit 0,L_fo1nl_1.st (U_fo1 o) ((),(),false,())))
def R_fo1nl (o:A_fo1):LRun:=runOf 65 L_fo1nl (fun x => x) (inv_fo1nl o) (O_fo1nl o)
set_option maxHeartbeats 4000000 in
theorem K_fo1nl (o:A_fo1):LoopOk P (Y_fo1 o) 65 none (U_fo1 o) C_fo1nl (R_fo1nl o):=by
  refine loop_of hm (cx:=[]) [(2,R_fo1n2 o)] (xl:=X_fo1nl) (α:=Unit × List K2 × Int × Int × List Tb × Int × Int × List Tb × Int × Int × Int × List V × Int × Int × Int × Int × Int × Unit × Unit × Unit × Unit × Int × Int × Int × Int × Unit × Unit × Int × List Hg × List R2 × Unit) (fun x => x) (fun (_,ks,g,to,l,n,j,_) => (n - j).toNat) (fun _ => rfl) (by kernel_rfl) (by kernel_rfl) ?_ (by kernel_rfl) ⟨K_fo1n2 o,trivial⟩ ?_
  · intro e S L' h
    unfold X_fo1nl at h
    split at h <;> first | (cases h; done) | (cases h; kernel_rfl) | (rcases bif_some h with h | h <;> cases h <;> kernel_rfl)
  · rintro ⟨⟨⟩,ks,g,to,l,n,j,sl,px,py,pz,pl,cm,cw,cl,ch,cb,⟨⟩,⟨⟩,⟨⟩,⟨⟩,lo,hi,tl,th,⟨⟩,⟨⟩,below,aft,bef,⟨⟩⟩ hinv Q hQ
    refine hold_of_eq (B_fo1nl o ks g to l n j sl px py pz pl cm cw cl ch cb lo hi tl th below aft bef) ?_
    obtain ⟨henv,hks,rfl,rfl,rfl,h0,h1,rfl,h5,h6,h7,hst,ha,hb⟩:=hinv
    have hd:Down ks (lenS ((px,py,pz),pl)):=by rw [hks]; exact fits_down henv.fits
    obtain ⟨_,g2,g3,g4⟩:=checkT_ok (fitsS_ok henv.fits).1
    unfold O_fo1nl at hQ
    dsimp only at hQ
    rw [W_id (n:=j + 1) (by omega) (by omega)]
    refine ⟨fun c1 => ?_,fun c1 => ?_⟩
    · have c1:j < (l.length:Int):=of_decide_eq_true c1
      have hf:=(g3 _ (mem_getD (d:=zT) h0 c1)).prod
      have hs:=sumT_step h0 c1
      have hr:=(sumT_rng (l.drop (j + 1).toNat) (g3.drop _)).1
      rw [pcsL_step h0 c1,runF_append] at hQ
      generalize sumT (l.drop j.toNat) = to at *
      generalize l.getD j.toNat zT = u at *
      rw [W_id (n:=u.1 * u.2.1) (by omega) (by omega),W_id (n:=to - u.1 * u.2.1) (by omega) (by omega)]
      have e:to - u.1 * u.2.1 = sumT (l.drop (j + 1).toNat):=by omega
      rw [e] at hQ ⊢
      have hg:=legAt_end hd j hr _ to g (Nat.le_refl _) (by omega) h5 h7
      have hro:=runF_ok' henv hks h0 c1 hr to below (lo,hi,tl,th) aft bef (by omega) h5 h6 hst
      refine ⟨⟨h0,c1⟩,⟨henv,hks,rfl,h0,c1,hr,by omega,h5,h6,h7,hst,ha,hb⟩,fun c2 => ?_,fun c2 => ?_⟩
      · obtain ⟨q1,q2,q3⟩:=hro c2
        rw [if_pos c2] at hQ
        exact ⟨⟨⟨henv,hks,rfl,rfl,rfl,by omega,by omega,rfl,by omega,by omega,hg,q1,by omega,by omega⟩,by show ((l.length:Int) - (j + 1)).toNat < ((l.length:Int) - j).toNat; omega⟩,hQ⟩
      · rw [if_neg (by rw [c2]; exact Bool.false_ne_true)] at hQ
        exact hQ.2 c2
    · have c1:¬ j < (l.length:Int):=of_decide_eq_false c1
      rw [drop_end c1,pcsL_nil,runF_nil] at hQ
      exact hQ.1 rfl
theorem G_fo1 (sl:List Tb) (px py pz:Int) (pl:List V) (cm cw cl ch cb:Int) (lo hi tl th:Int) (below:Int) (aft:List Hg) (bef:List R2) (qx qy qz:Int) (ql:List V) (q2:List Tb):rangeTree (P:=P) [c_Bend.gc,c_wild.gc,c_root.gc,c_Wet.gc,c_down.gc,c_up.gc,c_add,c_Side.gc,c_bendU.gc,c_rubU.gc,c_Vert.gc,c_plength.gc] (lpOf [(0,R_fo1nl ((),(),(),(),(),(),(),(),(),(),(),(),sl,px,py,pz,pl,cm,cw,cl,ch,cb,(),(),(),(),lo,hi,tl,th,(),(),below,aft,bef,qx,qy,qz,ql,q2,()))]) [] 205 noU 990 (rgFn C_fo1) (rgPs C_fo1).toList (rgAssign C_fo1) (rgBody C_fo1) X_fo1 (L_fo1.st noU ((),(),(),(),(),(),(),(),(),(),(),(),sl,px,py,pz,pl,cm,cw,cl,ch,cb,(),(),(),(),lo,hi,tl,th,(),(),below,aft,bef,qx,qy,qz,ql,q2,())) =
  Tree.need (List.length q2 ≤ (8:Nat) ∧ AllF q2) (.need (inv_fo1nl ((),(),(),(),(),(),(),(),(),(),(),(),sl,px,py,pz,pl,cm,cw,cl,ch,cb,(),(),(),(),lo,hi,tl,th,(),(),below,aft,bef,qx,qy,qz,ql,q2,()) ((),vertS ((qx,qy,qz),ql),IntKind.i64.wrap ((ql.length:Int) - (1:Int)),sumT q2,q2,(q2.length:Int),(0:Int),sl,px,py,pz,pl,cm,cw,cl,ch,cb,(),(),(),(),lo,hi,tl,th,(),(),below,aft,bef,())) (.cond (runF sl ((px,py,pz),pl) (cm,cw,(cl,ch),cb) below (lo,hi,tl,th) aft bef (pcsL (vertS ((qx,qy,qz),ql)) (0:Int) (sumT q2) (List.drop (Int.toNat (0:Int)) q2))).fst (.leaf (Exit.normal,Lay.st L_fo1_0 noU ((),(),(),(),(),(),(),(),(runF sl ((px,py,pz),pl) (cm,cw,(cl,ch),cb) below (lo,hi,tl,th) aft bef (pcsL (vertS ((qx,qy,qz),ql)) (0:Int) (sumT q2) (List.drop (Int.toNat (0:Int)) q2))).snd.snd.snd.fst,(runF sl ((px,py,pz),pl) (cm,cw,(cl,ch),cb) below (lo,hi,tl,th) aft bef (pcsL (vertS ((qx,qy,qz),ql)) (0:Int) (sumT q2) (List.drop (Int.toNat (0:Int)) q2))).snd.snd.snd.snd,()))) (.leaf (Exit.ret,Lay.st L_fo1_1 noU ((),(),(),(),(),false,()))))):=by kernel_rfl
def inv_fo1:Unit × Unit × Unit × Unit × Unit × Unit × Unit × Unit × Unit × Unit × Unit × Unit × List Tb × Int × Int × Int × List V × Int × Int × Int × Int × Int × Unit × Unit × Unit × Unit × Int × Int × Int × Int × Unit × Unit × Int × List Hg × List R2 × Int × Int × Int × List V × List Tb × Unit → Prop:=fun (_,_,_,_,_,_,_,_,_,_,_,_,sl,px,py,pz,pl,cm,cw,cl,ch,cb,_,_,_,_,lo,hi,tl,th,_,_,below,aft,bef,qx,qy,qz,ql,q2,_) => EnvOk sl ((px,py,pz),pl) (cm,cw,(cl,ch),cb) ∧ cm = 1 ∧ OkX lo hi ∧ below = -1 ∧ aft = [] ∧ bef = [] ∧ qx = px ∧ qy = py ∧ qz = pz ∧ ql = pl ∧ q2 = sl
def O_fo1:Unit × Unit × Unit × Unit × Unit × Unit × Unit × Unit × Unit × Unit × Unit × Unit × List Tb × Int × Int × Int × List V × Int × Int × Int × Int × Int × Unit × Unit × Unit × Unit × Int × Int × Int × Int × Unit × Unit × Int × List Hg × List R2 × Int × Int × Int × List V × List Tb × Unit → Tree (Exit × St):=fun (_,_,_,_,_,_,_,_,_,_,_,_,sl,px,py,pz,pl,cm,cw,cl,ch,cb,_,_,_,_,lo,hi,tl,th,_,_,below,aft,bef,qx,qy,qz,ql,q2,_) => .cond (runF sl ((px,py,pz),pl) (cm,cw,(cl,ch),cb) below (lo,hi,tl,th) aft bef (pcsS sl ((px,py,pz),pl))).1 (.leaf (.normal,L_fo1_0.st noU ((),(),(),(),(),(),(),(),(runF sl ((px,py,pz),pl) (cm,cw,(cl,ch),cb) below (lo,hi,tl,th) aft bef (pcsS sl ((px,py,pz),pl))).2.2.2.1,(runF sl ((px,py,pz),pl) (cm,cw,(cl,ch),cb) below (lo,hi,tl,th) aft bef (pcsS sl ((px,py,pz),pl))).2.2.2.2,()))) (.leaf (.ret,L_fo1_1.st noU ((),(),(),(),(),false,())))
def R_fo1:LRun:=runOf 205 L_fo1 (fun x => x) (inv_fo1) (O_fo1)
theorem H_fo1 (sl:List Tb) (px py pz:Int) (pl:List V) (cm cw cl ch cb:Int) (lo hi tl th:Int) (below:Int) (aft:List Hg) (bef:List R2) (qx qy qz:Int) (ql:List V) (q2:List Tb) (hinv:inv_fo1 ((),(),(),(),(),(),(),(),(),(),(),(),sl,px,py,pz,pl,cm,cw,cl,ch,cb,(),(),(),(),lo,hi,tl,th,(),(),below,aft,bef,qx,qy,qz,ql,q2,())) (Q:Exit × St → Prop) (hQ:(O_fo1 ((),(),(),(),(),(),(),(),(),(),(),(),sl,px,py,pz,pl,cm,cw,cl,ch,cb,(),(),(),(),lo,hi,tl,th,(),(),below,aft,bef,qx,qy,qz,ql,q2,())).holds Q):Hold Q (rangeTree (P:=P) [c_Bend.gc,c_wild.gc,c_root.gc,c_Wet.gc,c_down.gc,c_up.gc,c_add,c_Side.gc,c_bendU.gc,c_rubU.gc,c_Vert.gc,c_plength.gc] (lpOf [(0,R_fo1nl ((),(),(),(),(),(),(),(),(),(),(),(),sl,px,py,pz,pl,cm,cw,cl,ch,cb,(),(),(),(),lo,hi,tl,th,(),(),below,aft,bef,qx,qy,qz,ql,q2,()))]) [] 205 noU 990 (rgFn C_fo1) (rgPs C_fo1).toList (rgAssign C_fo1) (rgBody C_fo1) X_fo1 (L_fo1.st noU ((),(),(),(),(),(),(),(),(),(),(),(),sl,px,py,pz,pl,cm,cw,cl,ch,cb,(),(),(),(),lo,hi,tl,th,(),(),below,aft,bef,qx,qy,qz,ql,q2,()))):=by
    have e:=G_fo1 sl px py pz pl cm cw cl ch cb lo hi tl th below aft bef qx qy qz ql q2
    generalize rangeTree (P:=P) [c_Bend.gc,c_wild.gc,c_root.gc,c_Wet.gc,c_down.gc,c_up.gc,c_add,c_Side.gc,c_bendU.gc,c_rubU.gc,c_Vert.gc,c_plength.gc] (lpOf [(0,R_fo1nl ((),(),(),(),(),(),(),(),(),(),(),(),sl,px,py,pz,pl,cm,cw,cl,ch,cb,(),(),(),(),lo,hi,tl,th,(),(),below,aft,bef,qx,qy,qz,ql,q2,()))]) [] 205 noU 990 (rgFn C_fo1) (rgPs C_fo1).toList (rgAssign C_fo1) (rgBody C_fo1) X_fo1 (L_fo1.st noU ((),(),(),(),(),(),(),(),(),(),(),(),sl,px,py,pz,pl,cm,cw,cl,ch,cb,(),(),(),(),lo,hi,tl,th,(),(),below,aft,bef,qx,qy,qz,ql,q2,())) = t at e ⊢
    subst e
    constructor
    obtain ⟨henv,rfl,hX,rfl,rfl,rfl,rfl,rfl,rfl,rfl,rfl⟩:=hinv
    have hd:=fits_down henv.fits
    obtain ⟨f1,f2,f3⟩:=fitsS_ok henv.fits
    obtain ⟨_,g2,g3,g4⟩:=checkT_ok f1
    have hlen:=checkS_len f2
    have hpos:0 < ql.length:=List.length_pos_iff.2 (fits_legs henv.fits)
    have hkl:=knots_length (qx,qy,qz) ql
    have hs:=(sumT_rng q2 g3).1
    dsimp only at hd hlen hkl
    have hv:vertS ((qx,qy,qz),ql) = knots (qx,qy,qz) ql:=vertS_fits henv.fits
    rw [hv,W_id (n:=(ql.length:Int) - 1) (by omega) (by omega)]
    unfold O_fo1 at hQ
    dsimp only at hQ
    unfold pcsS at hQ
    rw [if_pos henv.fits] at hQ
    refine ⟨⟨g2,g3⟩,⟨henv,rfl,rfl,rfl,rfl,by decide,by omega,rfl,f3,g4,⟨by omega,by omega,fun hp => ?_⟩,⟨hX,by decide,by show (-1:Int) < ql.length; omega,fun h => absurd h (by decide)⟩,by show (0:Int) + sumT q2 ≤ 1048576; omega,by show (0:Int) + sumT q2 ≤ 1048576; omega⟩,?_⟩
    · have:=(legOf_ok hd hp f3).2.1
      omega
    · simp only [Int.toNat_zero,List.drop_zero]
      exact hQ
theorem J_fo1 (a:A_fo1):AllK P (Y_fo1 a) 65 none (U_fo1 a) (bodyOf Tryz.f98) [(0,R_fo1nl a)]:=⟨K_fo1nl a,trivial⟩
theorem K_fo1:LoopOk P [] 205 none noU C_fo1 (R_fo1):=by
  refine range_of hm (cx:=[c_Bend.gc,c_wild.gc,c_root.gc,c_Wet.gc,c_down.gc,c_up.gc,c_add,c_Side.gc,c_bendU.gc,c_rubU.gc,c_Vert.gc,c_plength.gc]) (xl:=X_fo1) (α:=Unit × Unit × Unit × Unit × Unit × Unit × Unit × Unit × Unit × Unit × Unit × Unit × List Tb × Int × Int × Int × List V × Int × Int × Int × Int × Int × Unit × Unit × Unit × Unit × Int × Int × Int × Int × Unit × Unit × Int × List Hg × List R2 × Int × Int × Int × List V × List Tb × Unit) (fun x => x) 990 (gf:=98) (fnI:=Tryz.f98) (fun a => [(0,R_fo1nl a)]) (fun _ => rfl) (by kernel_rfl) (by kernel_rfl) ?_ (by kernel_rfl) (fun a => ⟨encK [(52205,0),(52206,0)],by kernel_rfl⟩) (by kernel_rfl) ?_ ?_
  · intro e S L' h
    unfold X_fo1 at h
    split at h <;> first | (cases h; done) | (cases h; kernel_rfl) | (rcases bif_some h with h | h <;> cases h <;> kernel_rfl)
  · intro a; exact J_fo1 a
  · have tup:∀ Pr:Unit × Unit × Unit × Unit × Unit × Unit × Unit × Unit × Unit × Unit × Unit × Unit × List Tb × Int × Int × Int × List V × Int × Int × Int × Int × Int × Unit × Unit × Unit × Unit × Int × Int × Int × Int × Unit × Unit × Int × List Hg × List R2 × Int × Int × Int × List V × List Tb × Unit → Prop,(∀ (sl:List Tb) (px py pz:Int) (pl:List V) (cm cw cl ch cb:Int) (lo hi tl th:Int) (below:Int) (aft:List Hg) (bef:List R2) (qx qy qz:Int) (ql:List V) (q2:List Tb),Pr ((),(),(),(),(),(),(),(),(),(),(),(),sl,px,py,pz,pl,cm,cw,cl,ch,cb,(),(),(),(),lo,hi,tl,th,(),(),below,aft,bef,qx,qy,qz,ql,q2,())) → ∀ a,Pr a:=fun Pr h a => h (a.2.2.2.2.2.2.2.2.2.2.2.2.1) (a.2.2.2.2.2.2.2.2.2.2.2.2.2.1) (a.2.2.2.2.2.2.2.2.2.2.2.2.2.2.1) (a.2.2.2.2.2.2.2.2.2.2.2.2.2.2.2.1) (a.2.2.2.2.2.2.2.2.2.2.2.2.2.2.2.2.1) (a.2.2.2.2.2.2.2.2.2.2.2.2.2.2.2.2.2.1) (a.2.2.2.2.2.2.2.2.2.2.2.2.2.2.2.2.2.2.1) (a.2.2.2.2.2.2.2.2.2.2.2.2.2.2.2.2.2.2.2.1) (a.2.2.2.2.2.2.2.2.2.2.2.2.2.2.2.2.2.2.2.2.1) (a.2.2.2.2.2.2.2.2.2.2.2.2.2.2.2.2.2.2.2.2.2.1) (a.2.2.2.2.2.2.2.2.2.2.2.2.2.2.2.2.2.2.2.2.2.2.2.2.2.2.1) (a.2.2.2.2.2.2.2.2.2.2.2.2.2.2.2.2.2.2.2.2.2.2.2.2.2.2.2.1) (a.2.2.2.2.2.2.2.2.2.2.2.2.2.2.2.2.2.2.2.2.2.2.2.2.2.2.2.2.1) (a.2.2.2.2.2.2.2.2.2.2.2.2.2.2.2.2.2.2.2.2.2.2.2.2.2.2.2.2.2.1) (a.2.2.2.2.2.2.2.2.2.2.2.2.2.2.2.2.2.2.2.2.2.2.2.2.2.2.2.2.2.2.2.2.1) (a.2.2.2.2.2.2.2.2.2.2.2.2.2.2.2.2.2.2.2.2.2.2.2.2.2.2.2.2.2.2.2.2.2.1) (a.2.2.2.2.2.2.2.2.2.2.2.2.2.2.2.2.2.2.2.2.2.2.2.2.2.2.2.2.2.2.2.2.2.2.1) (a.2.2.2.2.2.2.2.2.2.2.2.2.2.2.2.2.2.2.2.2.2.2.2.2.2.2.2.2.2.2.2.2.2.2.2.1) (a.2.2.2.2.2.2.2.2.2.2.2.2.2.2.2.2.2.2.2.2.2.2.2.2.2.2.2.2.2.2.2.2.2.2.2.2.1) (a.2.2.2.2.2.2.2.2.2.2.2.2.2.2.2.2.2.2.2.2.2.2.2.2.2.2.2.2.2.2.2.2.2.2.2.2.2.1) (a.2.2.2.2.2.2.2.2.2.2.2.2.2.2.2.2.2.2.2.2.2.2.2.2.2.2.2.2.2.2.2.2.2.2.2.2.2.2.1) (a.2.2.2.2.2.2.2.2.2.2.2.2.2.2.2.2.2.2.2.2.2.2.2.2.2.2.2.2.2.2.2.2.2.2.2.2.2.2.2.1)
    refine tup _ ?_
    intro sl px py pz pl cm cw cl ch cb lo hi tl th below aft bef qx qy qz ql q2 hinv Q hQ
    exact H_fo1 sl px py pz pl cm cw cl ch cb lo hi tl th below aft bef qx qy qz ql q2 hinv Q hQ
set_option maxHeartbeats 2000000 in
theorem T_follow1 (sl :  List Tb) (px py pz :  Int) (pl :  List V) (cw cl ch cb :  Int):fnTree (P:=P) [c_add,c_rules.gc,c_pieces.gc] (lpOf [(0,R_fo1)]) Tryz.f67 (encL 0 [.agg tTs,.agg tPath,.agg tCs] (sl,((px,py,pz),pl),((1:Int),cw,(cl,ch),cb),())) =
  Tree.cond true (.need (inv_fo1 ((),(),(),(),(),(),(),(),(),(),(),(),sl,px,py,pz,pl,(1:Int),cw,cl,ch,cb,(),(),(),(),IntKind.i64.wrap (IntKind.i64.wrap ((0:Int) + IntKind.i64.wrap ((0:Int) - cb)) + IntKind.i64.wrap ((2:Int) * cb)),IntKind.i64.wrap (IntKind.i64.wrap ((0:Int) + IntKind.i64.wrap ((0:Int) - cb)) + IntKind.i64.wrap ((2:Int) * cb)),(0:Int),(0:Int),(),(),(-1:Int),[],[],px,py,pz,pl,sl,())) (.cond (runF sl ((px,py,pz),pl) ((1:Int),cw,(cl,ch),cb) (-1:Int) (IntKind.i64.wrap (IntKind.i64.wrap ((0:Int) + IntKind.i64.wrap ((0:Int) - cb)) + IntKind.i64.wrap ((2:Int) * cb)),IntKind.i64.wrap (IntKind.i64.wrap ((0:Int) + IntKind.i64.wrap ((0:Int) - cb)) + IntKind.i64.wrap ((2:Int) * cb)),(0:Int),(0:Int)) [] [] (pcsS sl ((px,py,pz),pl))).fst (.leaf (SV.tup [SV.sl (Ty.pair tI (Ty.pair tPart tPart)) (runF sl ((px,py,pz),pl) ((1:Int),cw,(cl,ch),cb) (-1:Int) (IntKind.i64.wrap (IntKind.i64.wrap ((0:Int) + IntKind.i64.wrap ((0:Int) - cb)) + IntKind.i64.wrap ((2:Int) * cb)),IntKind.i64.wrap (IntKind.i64.wrap ((0:Int) + IntKind.i64.wrap ((0:Int) - cb)) + IntKind.i64.wrap ((2:Int) * cb)),(0:Int),(0:Int)) [] [] (pcsS sl ((px,py,pz),pl))).snd.snd.snd.fst,SV.sl (Ty.pair tI tI) (runF sl ((px,py,pz),pl) ((1:Int),cw,(cl,ch),cb) (-1:Int) (IntKind.i64.wrap (IntKind.i64.wrap ((0:Int) + IntKind.i64.wrap ((0:Int) - cb)) + IntKind.i64.wrap ((2:Int) * cb)),IntKind.i64.wrap (IntKind.i64.wrap ((0:Int) + IntKind.i64.wrap ((0:Int) - cb)) + IntKind.i64.wrap ((2:Int) * cb)),(0:Int),(0:Int)) [] [] (pcsS sl ((px,py,pz),pl))).snd.snd.snd.snd,SV.bool true])) (.leaf (SV.tup [SV.nils,SV.nils,SV.bool false])))) (.need (inv_fo1 ((),(),(),(),(),(),(),(),(),(),(),(),sl,px,py,pz,pl,(1:Int),cw,cl,ch,cb,(),(),(),(),IntKind.i64.wrap ((0:Int) + IntKind.i64.wrap ((0:Int) - cb)),IntKind.i64.wrap ((0:Int) + IntKind.i64.wrap ((0:Int) - cb)),(0:Int),(0:Int),(),(),(-1:Int),[],[],px,py,pz,pl,sl,())) (.cond (runF sl ((px,py,pz),pl) ((1:Int),cw,(cl,ch),cb) (-1:Int) (IntKind.i64.wrap ((0:Int) + IntKind.i64.wrap ((0:Int) - cb)),IntKind.i64.wrap ((0:Int) + IntKind.i64.wrap ((0:Int) - cb)),(0:Int),(0:Int)) [] [] (pcsS sl ((px,py,pz),pl))).fst (.leaf (SV.tup [SV.sl (Ty.pair tI (Ty.pair tPart tPart)) (runF sl ((px,py,pz),pl) ((1:Int),cw,(cl,ch),cb) (-1:Int) (IntKind.i64.wrap ((0:Int) + IntKind.i64.wrap ((0:Int) - cb)),IntKind.i64.wrap ((0:Int) + IntKind.i64.wrap ((0:Int) - cb)),(0:Int),(0:Int)) [] [] (pcsS sl ((px,py,pz),pl))).snd.snd.snd.fst,SV.sl (Ty.pair tI tI) (runF sl ((px,py,pz),pl) ((1:Int),cw,(cl,ch),cb) (-1:Int) (IntKind.i64.wrap ((0:Int) + IntKind.i64.wrap ((0:Int) - cb)),IntKind.i64.wrap ((0:Int) + IntKind.i64.wrap ((0:Int) - cb)),(0:Int),(0:Int)) [] [] (pcsS sl ((px,py,pz),pl))).snd.snd.snd.snd,SV.bool true])) (.leaf (SV.tup [SV.nils,SV.nils,SV.bool false])))):=by kernel_rfl
set_option maxHeartbeats 2000000 in
def c_follow1:PC P:=PC.of (α:=List Tb × Pth × Cs × Unit) 67 [.agg tTs,.agg tPath,.agg tCs] (fun x => x) (fun x => x) (fun _ => rfl)
  (fun x => some (x.2.2.1.1 = 1 ∧ EnvOk x.1 x.2.1 x.2.2.1))
  (fun x => .tup [.sl tHg (folS x.1 x.2.1 x.2.2.1).2.1,.sl tPart (folS x.1 x.2.1 x.2.2.1).2.2,.bool (folS x.1 x.2.1 x.2.2.1).1]) (by kernel_rfl) (by
    rintro ⟨sl,⟨⟨px,py,pz⟩,pl⟩,⟨cm,cw,⟨cl,ch⟩,cb⟩,⟨⟩⟩ hp
    obtain ⟨hlit,hp⟩ : cm = 1 ∧ _:=hp
    subst hlit
    refine fn_le hm (by kernel_rfl) (by kernel_rfl) (T_follow1 sl px py pz pl cw cl ch cb) ⟨K_fo1,trivial⟩ (by kernel_rfl) ?_
    have henv:EnvOk sl ((px,py,pz),pl) (1,cw,(cl,ch),cb):=hp
    have hbit:0 ≤ cb ∧ cb ≤ 1099511627776:=henv.case.bit
    have hst:startS (1,cw,(cl,ch),cb) = (cb,cb,0,0):=if_pos rfl
    show Tree.holds (fun s => LeS s (SV.tup [.sl tHg (folS sl ((px,py,pz),pl) (1,cw,(cl,ch),cb)).2.1,.sl tPart (folS sl ((px,py,pz),pl) (1,cw,(cl,ch),cb)).2.2,.bool (folS sl ((px,py,pz),pl) (1,cw,(cl,ch),cb)).1])) _
    rw [W_id (n:=0 - cb) (by omega) (by omega),W_id (n:=0 + (0 - cb)) (by omega) (by omega),W_id (n:=2 * cb) (by omega) (by omega),W_id (n:=0 + (0 - cb) + 2 * cb) (by omega) (by omega),show 0 + (0 - cb) + 2 * cb = cb by omega]
    unfold folS
    rw [hst]
    have fin:∀ R:Bool × Int × H4 × List Hg × List R2,(R.1 = true → LeS (SV.tup [.sl tHg R.2.2.2.1,.sl tPart R.2.2.2.2,.bool true]) (SV.tup [.sl tHg (if R.1 = true then (true,R.2.2.2.1,R.2.2.2.2) else (false,[],[])).2.1,.sl tPart (if R.1 = true then (true,R.2.2.2.1,R.2.2.2.2) else (false,[],[])).2.2,.bool (if R.1 = true then (true,R.2.2.2.1,R.2.2.2.2) else (false,[],[])).1])) ∧
        (R.1 = false → LeS (SV.tup [.nils,.nils,.bool false]) (SV.tup [.sl tHg (if R.1 = true then (true,R.2.2.2.1,R.2.2.2.2) else (false,[],[])).2.1,.sl tPart (if R.1 = true then (true,R.2.2.2.1,R.2.2.2.2) else (false,[],[])).2.2,.bool (if R.1 = true then (true,R.2.2.2.1,R.2.2.2.2) else (false,[],[])).1])):=by
      intro R
      refine ⟨fun h => ?_,fun h => ?_⟩
      · rw [if_pos h]; exact ⟨rfl,rfl,rfl,trivial⟩
      · rw [if_neg (by rw [h]; exact Bool.false_ne_true)]; exact ⟨rfl,rfl,rfl,trivial⟩
    refine ⟨fun _ => ?_,fun h => (by cases h)⟩
    exact ⟨⟨henv,rfl,⟨by omega,by omega,by omega⟩,rfl,rfl,rfl,rfl,rfl,rfl,rfl,rfl⟩,(fin _).1,(fin _).2⟩)
def L_fo2:Lay:={ slots:=[(3,.ptr 4205 0),(4,.ptr 5205 0),(5,.ptr 6205 0),(6,.ptr 7205 0),(7,.ptr 8205 0),(8,.ptr 9205 0),(9,.ptr 10205 0),(10,.ptr 11205 0),(11,.ptr 12205 0),(12,.ptr 13205 0),(13,.ptr 14205 0),(51,.clo 98 [(52205,0),(52206,0)])],boxes:=[(4205,[.val tTs]),(5205,[.val tI,.val tI,.val tI,.val tVs]),(6205,[.val tI,.val tI,.val tI,.val tI,.val tI]),(7205,[.any]),(8205,[.any]),(9205,[.any]),(10205,[.ptr 23205 0]),(23205,[.val tI,.val tI,.val tI,.val tI]),(11205,[.fn 111,.fn 112]),(12205,[.val tI]),(13205,[.row 67 tHg]),(14205,[.row 31 tPart]),(52205,[.val tI,.val tI,.val tI,.val tVs]),(52206,[.val tTs])] }
def L_fo2_0:Lay:={ slots:=[(6,.ptr 7205 0),(7,.ptr 8205 0),(8,.ptr 9205 0),(12,.ptr 13205 0),(13,.ptr 14205 0)],boxes:=[(7205,[.any]),(8205,[.any]),(9205,[.any]),(13205,[.row 67 tHg]),(14205,[.row 31 tPart])] }
def L_fo2_1:Lay:={ slots:=[(6,.ptr 7205 0),(7,.ptr 8205 0),(8,.ptr 9205 0)],boxes:=[(7205,[.nils]),(8205,[.nils]),(9205,[.val .bool])] }
def X_fo2:Exit → St → Option Lay
  | .normal,_ => some L_fo2_0
  | .ret,_ => some L_fo2_1
  | _,_ => none
abbrev C_fo2:Code:=loopC (bodyOf Tryz.f67) 0
abbrev A_fo2:Type:=Unit × Unit × Unit × Unit × Unit × Unit × Unit × Unit × Unit × Unit × Unit × Unit × List Tb × Int × Int × Int × List V × Int × Int × Int × Int × Int × Unit × Unit × Unit × Unit × Int × Int × Int × Int × Unit × Unit × Int × List Hg × List R2 × Int × Int × Int × List V × List Tb × Unit
abbrev Y_fo2 (a:A_fo2):List YH:=[⟨990,roundRun (P:=P) [c_Bend.gc,c_wild.gc,c_root.gc,c_Wet.gc,c_down.gc,c_up.gc,c_add,c_Side.gc,c_bendD.gc,c_rubD.gc,c_Vert.gc,c_plength.gc] [] 205 990 (L_fo2.st noU a).tmps (rgPs C_fo2).toList (rgAssign C_fo2) (rgBody C_fo2)⟩]
abbrev U_fo2 (a:A_fo2):Nat → Bool:=apU (L_fo2.st noU a).used [990]
def L_fo2n4:Lay:={ slots:=[(0,.yld 990),(4,.val tKs),(5,.val tI),(6,.val tI),(7,.val tI),(9,.val tI),(21,.val tTs),(22,.val tI),(23,.val tI)],boxes:=[(4205,[.val tTs]),(5205,[.val tI,.val tI,.val tI,.val tVs]),(6205,[.val tI,.val tI,.val tI,.val tI,.val tI]),(7205,[.any]),(8205,[.any]),(9205,[.any]),(10205,[.ptr 23205 0]),(23205,[.val tI,.val tI,.val tI,.val tI]),(11205,[.fn 111,.fn 112]),(12205,[.val tI]),(13205,[.row 67 tHg]),(14205,[.row 31 tPart])],recs:=[(990,.ready)] }
def L_fo2n4_0:Lay:={ slots:=[(0,.yld 990),(4,.val tKs),(5,.val tI),(6,.val tI),(7,.val tI),(9,.val tI),(21,.val tTs),(22,.val tI),(23,.val tI)],boxes:=[(4205,[.val tTs]),(5205,[.val tI,.val tI,.val tI,.val tVs]),(6205,[.val tI,.val tI,.val tI,.val tI,.val tI]),(7205,[.any]),(8205,[.any]),(9205,[.any]),(10205,[.ptr 23205 0]),(23205,[.val tI,.val tI,.val tI,.val tI]),(11205,[.fn 111,.fn 112]),(12205,[.val tI]),(13205,[.row 67 tHg]),(14205,[.row 31 tPart])],recs:=[(990,.ready)] }
def X_fo2n4:Exit → St → Option Lay
  | .exit 4,_ => some L_fo2n4_0
  | _,_ => none
abbrev C_fo2n4:Code:=loopC (inner (loopC (inner (loopC (bodyOf Tryz.f98) 0)) 2)) 4
theorem B_fo2n4 (o:A_fo2) (ks:List K2) (g to i top:Int) (l:List Tb) (n j:Int) (sl:List Tb) (px py pz:Int) (pl:List V) (cm cw cl ch cb:Int) (lo hi tl th:Int) (below:Int) (aft:List Hg) (bef:List R2):loopBodyA (P:=P) [] (lpOf []) (Y_fo2 o) 65 (U_fo2 o) (inner C_fo2n4) L_fo2n4 X_fo2n4 (α:=Unit × List K2 × Int × Int × Int × Int × List Tb × Int × Int × List Tb × Int × Int × Int × List V × Int × Int × Int × Int × Int × Unit × Unit × Unit × Unit × Int × Int × Int × Int × Unit × Unit × Int × List Hg × List R2 × Unit) (fun x => x) (fun x => x) ((),ks,g,to,i,top,l,n,j,sl,px,py,pz,pl,cm,cw,cl,ch,cb,(),(),(),(),lo,hi,tl,th,(),(),below,aft,bef,()) =
  Tree.need ((0:Int) ≤ g ∧ g < (ks.length:Int)) (.cond (decide ((List.getD ks (Int.toNat g) (0,0)).fst ≥ to)) (.leaf (Sum.inl ((),ks,IntKind.i64.wrap (g - (1:Int)),to,i,top,l,n,j,sl,px,py,pz,pl,cm,cw,cl,ch,cb,(),(),(),(),lo,hi,tl,th,(),(),below,aft,bef,()))) (.leaf (Sum.inr (Exit.exit (4:Nat),Lay.st L_fo2n4_0 (U_fo2 o) ((),ks,g,to,i,top,l,n,j,sl,px,py,pz,pl,cm,cw,cl,ch,cb,(),(),(),(),lo,hi,tl,th,(),(),below,aft,bef,()))))):=by kernel_rfl
def inv_fo2n4 (o:A_fo2):Unit × List K2 × Int × Int × Int × Int × List Tb × Int × Int × List Tb × Int × Int × Int × List V × Int × Int × Int × Int × Int × Unit × Unit × Unit × Unit × Int × Int × Int × Int × Unit × Unit × Int × List Hg × List R2 × Unit → Prop:=fun (_,ks,g,to,i,top,l,n,j,_) => ∃ L,Down ks L ∧ 0 < to ∧ to ≤ L ∧ LegAt ks to g ∧ (ks.length:Int) ≤ 1000
def O_fo2n4 (o:A_fo2):Unit × List K2 × Int × Int × Int × Int × List Tb × Int × Int × List Tb × Int × Int × Int × List V × Int × Int × Int × Int × Int × Unit × Unit × Unit × Unit × Int × Int × Int × Int × Unit × Unit × Int × List Hg × List R2 × Unit → Tree (Exit × St):=fun (_,ks,g,to,i,top,l,n,j,sl,px,py,pz,pl,cm,cw,cl,ch,cb,_,_,_,_,lo,hi,tl,th,_,_,below,aft,bef,_) => .leaf (.exit 4,L_fo2n4_0.st (U_fo2 o) ((),ks,legOf ks to,to,i,top,l,n,j,sl,px,py,pz,pl,cm,cw,cl,ch,cb,(),(),(),(),lo,hi,tl,th,(),(),below,aft,bef,()))
def R_fo2n4 (o:A_fo2):LRun:=runOf 65 L_fo2n4 (fun x => x) (inv_fo2n4 o) (O_fo2n4 o)
theorem K_fo2n4 (o:A_fo2):LoopOk P (Y_fo2 o) 65 none (U_fo2 o) C_fo2n4 (R_fo2n4 o):=by
  refine loop_of hm (cx:=[]) [] (xl:=X_fo2n4) (α:=Unit × List K2 × Int × Int × Int × Int × List Tb × Int × Int × List Tb × Int × Int × Int × List V × Int × Int × Int × Int × Int × Unit × Unit × Unit × Unit × Int × Int × Int × Int × Unit × Unit × Int × List Hg × List R2 × Unit) (fun x => x) (fun (_,ks,g,_) => g.toNat) (fun _ => rfl) (by kernel_rfl) (by kernel_rfl) ?_ (by kernel_rfl) trivial ?_
  · intro e S L' h
    unfold X_fo2n4 at h
    split at h <;> first | (cases h; done) | (cases h; kernel_rfl) | (rcases bif_some h with h | h <;> cases h <;> kernel_rfl)
  · rintro ⟨⟨⟩,ks,g,to,i,top,l,n,j,sl,px,py,pz,pl,cm,cw,cl,ch,cb,⟨⟩,⟨⟩,⟨⟩,⟨⟩,lo,hi,tl,th,⟨⟩,⟨⟩,below,aft,bef,⟨⟩⟩ hinv Q hQ
    refine hold_of_eq (B_fo2n4 o ks g to i top l n j sl px py pz pl cm cw cl ch cb lo hi tl th below aft bef) ?_
    obtain ⟨L,hd,h0,h1,⟨h2,h3,h4⟩,h5⟩:=hinv
    have hg:=h4 h0
    obtain ⟨l1,l2,l3,l4⟩:=legOf_ok hd h0 h1
    unfold O_fo2n4 at hQ
    dsimp only at hQ
    refine ⟨⟨h2,by omega⟩,fun c1 => ?_,fun c1 => ?_⟩
    · have c1:knotA ks g ≥ to:=of_decide_eq_true c1
      have hlt:legOf ks to < g:=by
        rcases Int.lt_or_le (legOf ks to) g with e | e
        · exact e
        · have:legOf ks to = g:=by omega
          rw [this] at l3; omega
      rw [W_id (n:=g - 1) (by omega) (by omega)]
      exact ⟨⟨⟨L,hd,h0,h1,⟨by omega,by omega,fun _ => by omega⟩,h5⟩,by show (g - 1).toNat < g.toNat; omega⟩,hQ⟩
    · have c1:¬ knotA ks g ≥ to:=of_decide_eq_false c1
      have e:legOf ks to = g:=by
        rcases Int.lt_or_le (legOf ks to) g with e | e
        · have:=hd.asc (legOf ks to + 1) g (by omega) (by omega) (by omega)
          omega
        · omega
      rw [e] at hQ
      exact hQ
def L_fo2n2:Lay:={ slots:=[(0,.yld 990),(4,.val tKs),(5,.val tI),(6,.val tI),(7,.val tI),(9,.val tI),(21,.val tTs),(22,.val tI),(23,.val tI)],boxes:=[(4205,[.val tTs]),(5205,[.val tI,.val tI,.val tI,.val tVs]),(6205,[.val tI,.val tI,.val tI,.val tI,.val tI]),(7205,[.any]),(8205,[.any]),(9205,[.any]),(10205,[.ptr 23205 0]),(23205,[.val tI,.val tI,.val tI,.val tI]),(11205,[.fn 111,.fn 112]),(12205,[.val tI]),(13205,[.row 67 tHg]),(14205,[.row 31 tPart])],recs:=[(990,.ready)] }
def L_fo2n2_0:Lay:={ slots:=[(0,.yld 990),(4,.val tKs),(5,.val tI),(6,.val tI),(21,.val tTs),(22,.val tI),(23,.val tI)],boxes:=[(4205,[.val tTs]),(5205,[.val tI,.val tI,.val tI,.val tVs]),(6205,[.val tI,.val tI,.val tI,.val tI,.val tI]),(7205,[.any]),(8205,[.any]),(9205,[.any]),(10205,[.ptr 23205 0]),(23205,[.val tI,.val tI,.val tI,.val tI]),(11205,[.fn 111,.fn 112]),(12205,[.val tI]),(13205,[.row 67 tHg]),(14205,[.row 31 tPart])],recs:=[(990,.ready)] }
def L_fo2n2_1:Lay:={ slots:=[],boxes:=[(7205,[.nils]),(8205,[.nils]),(9205,[.val .bool])],recs:=[(990,.done .ret)] }
def X_fo2n2:Exit → St → Option Lay
  | .exit 2,_ => some L_fo2n2_0
  | .exit 0,_ => some L_fo2n2_1
  | _,_ => none
abbrev C_fo2n2:Code:=loopC (inner (loopC (bodyOf Tryz.f98) 0)) 2
theorem B_fo2n2 (o:A_fo2) (ks:List K2) (g to i top:Int) (l:List Tb) (n j:Int) (sl:List Tb) (px py pz:Int) (pl:List V) (cm cw cl ch cb:Int) (lo hi tl th:Int) (below:Int) (aft:List Hg) (bef:List R2) (x4_:Int × Int × Int × Int × Int × Int × Int × Int × Int) (hx4_:x4_ = (List.getD sl (Int.toNat i) (0,0,0,0,0,0,0,0,0))) (x5_:Int × Int × Int) (hx5_:x5_ = (List.getD pl (Int.toNat (legOf ks to)) (0,0,0))) (x1_:Int × Bool) (hx1_:x1_ = (rootS (IntKind.i64.wrap (IntKind.i64.wrap (IntKind.i64.wrap (x5_.fst * x5_.fst) + IntKind.i64.wrap (x5_.snd.fst * x5_.snd.fst)) + IntKind.i64.wrap (x5_.snd.snd * x5_.snd.snd))))) (x6_:Int × Int) (hx6_:x6_ = (List.getD ks (Int.toNat (legOf ks to)) (0,0))) (x7_:Int × Int × Int × Int) (hx7_:x7_ = (bentS (2:Int) (cl,ch) (bendV x5_ (List.getD pl (Int.toNat below) (0,0,0))) x4_.snd.snd.snd.snd.fst (lo,hi,tl,th))) (x8_:Int) (hx8_:x8_ = (IntKind.i64.wrap (IntKind.i64.wrap (wetS x4_ cw * IntKind.i64.wrap (to - maxI top x6_.fst)) * (sideS x5_).snd))) (x9_:Int) (hx9_:x9_ = (IntKind.i64.wrap (IntKind.i64.wrap (wetS x4_ cw * IntKind.i64.wrap (to - maxI top x6_.fst)) * x5_.snd.snd))) (x2_:Int × Int × Int × Int) (hx2_:x2_ = (rubS (2:Int) (IntKind.i64.wrap (IntKind.i64.wrap (IntKind.i64.wrap (wetS x4_ cw * IntKind.i64.wrap (to - maxI top x6_.fst)) * (sideS x5_).fst) / x1_.fst * cl) / (1000:Int)) (upS (IntKind.i64.wrap (upS x8_ x1_.fst * ch)) (1000:Int)) x4_.snd.snd.snd.snd.fst (IntKind.i64.wrap (lo + IntKind.i64.wrap (IntKind.i64.wrap (wetS x4_ cw * IntKind.i64.wrap (to - maxI top x6_.fst)) * x5_.snd.snd) / x1_.fst),IntKind.i64.wrap (hi + upS x9_ x1_.fst),tl,th))) (x3_:Int × Int × Int × Int) (hx3_:x3_ = (rubS (2:Int) (IntKind.i64.wrap (IntKind.i64.wrap (IntKind.i64.wrap (wetS x4_ cw * IntKind.i64.wrap (to - maxI top x6_.fst)) * (sideS x5_).fst) / x1_.fst * cl) / (1000:Int)) (upS (IntKind.i64.wrap (upS x8_ x1_.fst * ch)) (1000:Int)) x4_.snd.snd.snd.snd.fst (IntKind.i64.wrap (x7_.fst + IntKind.i64.wrap (IntKind.i64.wrap (wetS x4_ cw * IntKind.i64.wrap (to - maxI top x6_.fst)) * x5_.snd.snd) / x1_.fst),IntKind.i64.wrap (x7_.snd.fst + upS x9_ x1_.fst),x7_.snd.snd))):loopBodyA (P:=P) [] (lpOf [(4,R_fo2n4 o)]) (Y_fo2 o) 65 (U_fo2 o) (inner C_fo2n2) L_fo2n2 X_fo2n2 (α:=Unit × List K2 × Int × Int × Int × Int × List Tb × Int × Int × List Tb × Int × Int × Int × List V × Int × Int × Int × Int × Int × Unit × Unit × Unit × Unit × Int × Int × Int × Int × Unit × Unit × Int × List Hg × List R2 × Unit) (fun x => x) (fun x => x) ((),ks,g,to,i,top,l,n,j,sl,px,py,pz,pl,cm,cw,cl,ch,cb,(),(),(),(),lo,hi,tl,th,(),(),below,aft,bef,()) =
  Tree.cond (decide (to > top)) (.need (inv_fo2n4 o ((),ks,g,to,i,top,l,n,j,sl,px,py,pz,pl,cm,cw,cl,ch,cb,(),(),(),(),lo,hi,tl,th,(),(),below,aft,bef,())) (.need ((0:Int) ≤ legOf ks to ∧ legOf ks to < (ks.length:Int)) (.need ((0:Int) ≤ i ∧ i < (sl.length:Int)) (.need ((0:Int) ≤ legOf ks to ∧ legOf ks to < (pl.length:Int)) (.cond (decide (below ≥ (0:Int))) (.cond (below != legOf ks to) (.need ((0:Int) ≤ below ∧ below < (pl.length:Int)) (.need (OkX lo hi ∧ OkMu (cl,ch) ∧ OkB (bendV x5_ (List.getD pl (Int.toNat below) (0,0,0)))) (.cond (wildS x7_) (.leaf (Sum.inr (Exit.exit (0:Nat),Lay.st L_fo2n2_1 (U_fo2 o) ((),(),false,())))) (.need ((List.length bef + List.length [(x7_.fst,x7_.snd.fst)]) * (16:Nat) ≤ (140737488355328:Nat)) (.need ((0:Int) < x1_.fst ∧ (-9223372036854775808:Int) < IntKind.i64.wrap (IntKind.i64.wrap (wetS x4_ cw * IntKind.i64.wrap (to - maxI top x6_.fst)) * x5_.snd.snd) ∧ IntKind.i64.wrap (IntKind.i64.wrap (wetS x4_ cw * IntKind.i64.wrap (to - maxI top x6_.fst)) * x5_.snd.snd) ≤ (9223372036854775807:Int)) (.need ((0:Int) < x1_.fst ∧ (-9223372036854775808:Int) < IntKind.i64.wrap (IntKind.i64.wrap (wetS x4_ cw * IntKind.i64.wrap (to - maxI top x6_.fst)) * x5_.snd.snd) ∧ IntKind.i64.wrap (IntKind.i64.wrap (wetS x4_ cw * IntKind.i64.wrap (to - maxI top x6_.fst)) * x5_.snd.snd) < (9223372036854775807:Int)) (.cond (wildS (IntKind.i64.wrap (x7_.fst + IntKind.i64.wrap (IntKind.i64.wrap (wetS x4_ cw * IntKind.i64.wrap (to - maxI top x6_.fst)) * x5_.snd.snd) / x1_.fst),IntKind.i64.wrap (x7_.snd.fst + upS x9_ x1_.fst),x7_.snd.snd)) (.leaf (Sum.inr (Exit.exit (0:Nat),Lay.st L_fo2n2_1 (U_fo2 o) ((),(),false,())))) (.need ((0:Int) < x1_.fst ∧ (-9223372036854775808:Int) < IntKind.i64.wrap (IntKind.i64.wrap (wetS x4_ cw * IntKind.i64.wrap (to - maxI top x6_.fst)) * (sideS x5_).fst) ∧ IntKind.i64.wrap (IntKind.i64.wrap (wetS x4_ cw * IntKind.i64.wrap (to - maxI top x6_.fst)) * (sideS x5_).fst) ≤ (9223372036854775807:Int)) (.need ((0:Int) < (1000:Int) ∧ (-9223372036854775808:Int) < IntKind.i64.wrap (IntKind.i64.wrap (IntKind.i64.wrap (wetS x4_ cw * IntKind.i64.wrap (to - maxI top x6_.fst)) * (sideS x5_).fst) / x1_.fst * cl) ∧ IntKind.i64.wrap (IntKind.i64.wrap (IntKind.i64.wrap (wetS x4_ cw * IntKind.i64.wrap (to - maxI top x6_.fst)) * (sideS x5_).fst) / x1_.fst * cl) ≤ (9223372036854775807:Int)) (.need ((0:Int) < x1_.fst ∧ (-9223372036854775808:Int) < IntKind.i64.wrap (IntKind.i64.wrap (wetS x4_ cw * IntKind.i64.wrap (to - maxI top x6_.fst)) * (sideS x5_).snd) ∧ IntKind.i64.wrap (IntKind.i64.wrap (wetS x4_ cw * IntKind.i64.wrap (to - maxI top x6_.fst)) * (sideS x5_).snd) < (9223372036854775807:Int)) (.need ((0:Int) < (1000:Int) ∧ (-9223372036854775808:Int) < IntKind.i64.wrap (upS x8_ x1_.fst * ch) ∧ IntKind.i64.wrap (upS x8_ x1_.fst * ch) < (9223372036854775807:Int)) (.need (OkX (IntKind.i64.wrap (x7_.fst + IntKind.i64.wrap (IntKind.i64.wrap (wetS x4_ cw * IntKind.i64.wrap (to - maxI top x6_.fst)) * x5_.snd.snd) / x1_.fst)) (IntKind.i64.wrap (x7_.snd.fst + upS x9_ x1_.fst)) ∧ OkF (IntKind.i64.wrap (IntKind.i64.wrap (IntKind.i64.wrap (wetS x4_ cw * IntKind.i64.wrap (to - maxI top x6_.fst)) * (sideS x5_).fst) / x1_.fst * cl) / (1000:Int)) (upS (IntKind.i64.wrap (upS x8_ x1_.fst * ch)) (1000:Int))) (.cond (wildS x3_) (.leaf (Sum.inr (Exit.exit (0:Nat),Lay.st L_fo2n2_1 (U_fo2 o) ((),(),false,())))) (.need ((List.length aft + List.length [(maxI top x6_.fst,(x3_.fst,x3_.snd.fst),x3_.snd.snd)]) * (40:Nat) ≤ (140737488355328:Nat)) (.leaf (Sum.inl ((),ks,legOf ks to,maxI top x6_.fst,i,top,l,n,j,sl,px,py,pz,pl,cm,cw,cl,ch,cb,(),(),(),(),x3_.fst,x3_.snd.fst,x3_.snd.snd.fst,x3_.snd.snd.snd,(),(),legOf ks to,aft ++ [(maxI top x6_.fst,(x3_.fst,x3_.snd.fst),x3_.snd.snd)],bef ++ [(x7_.fst,x7_.snd.fst)],()))))))))))))))))) (.need ((List.length bef + List.length [(lo,hi)]) * (16:Nat) ≤ (140737488355328:Nat)) (.need ((0:Int) < x1_.fst ∧ (-9223372036854775808:Int) < IntKind.i64.wrap (IntKind.i64.wrap (wetS x4_ cw * IntKind.i64.wrap (to - maxI top x6_.fst)) * x5_.snd.snd) ∧ IntKind.i64.wrap (IntKind.i64.wrap (wetS x4_ cw * IntKind.i64.wrap (to - maxI top x6_.fst)) * x5_.snd.snd) ≤ (9223372036854775807:Int)) (.need ((0:Int) < x1_.fst ∧ (-9223372036854775808:Int) < IntKind.i64.wrap (IntKind.i64.wrap (wetS x4_ cw * IntKind.i64.wrap (to - maxI top x6_.fst)) * x5_.snd.snd) ∧ IntKind.i64.wrap (IntKind.i64.wrap (wetS x4_ cw * IntKind.i64.wrap (to - maxI top x6_.fst)) * x5_.snd.snd) < (9223372036854775807:Int)) (.cond (wildS (IntKind.i64.wrap (lo + IntKind.i64.wrap (IntKind.i64.wrap (wetS x4_ cw * IntKind.i64.wrap (to - maxI top x6_.fst)) * x5_.snd.snd) / x1_.fst),IntKind.i64.wrap (hi + upS x9_ x1_.fst),tl,th)) (.leaf (Sum.inr (Exit.exit (0:Nat),Lay.st L_fo2n2_1 (U_fo2 o) ((),(),false,())))) (.need ((0:Int) < x1_.fst ∧ (-9223372036854775808:Int) < IntKind.i64.wrap (IntKind.i64.wrap (wetS x4_ cw * IntKind.i64.wrap (to - maxI top x6_.fst)) * (sideS x5_).fst) ∧ IntKind.i64.wrap (IntKind.i64.wrap (wetS x4_ cw * IntKind.i64.wrap (to - maxI top x6_.fst)) * (sideS x5_).fst) ≤ (9223372036854775807:Int)) (.need ((0:Int) < (1000:Int) ∧ (-9223372036854775808:Int) < IntKind.i64.wrap (IntKind.i64.wrap (IntKind.i64.wrap (wetS x4_ cw * IntKind.i64.wrap (to - maxI top x6_.fst)) * (sideS x5_).fst) / x1_.fst * cl) ∧ IntKind.i64.wrap (IntKind.i64.wrap (IntKind.i64.wrap (wetS x4_ cw * IntKind.i64.wrap (to - maxI top x6_.fst)) * (sideS x5_).fst) / x1_.fst * cl) ≤ (9223372036854775807:Int)) (.need ((0:Int) < x1_.fst ∧ (-9223372036854775808:Int) < IntKind.i64.wrap (IntKind.i64.wrap (wetS x4_ cw * IntKind.i64.wrap (to - maxI top x6_.fst)) * (sideS x5_).snd) ∧ IntKind.i64.wrap (IntKind.i64.wrap (wetS x4_ cw * IntKind.i64.wrap (to - maxI top x6_.fst)) * (sideS x5_).snd) < (9223372036854775807:Int)) (.need ((0:Int) < (1000:Int) ∧ (-9223372036854775808:Int) < IntKind.i64.wrap (upS x8_ x1_.fst * ch) ∧ IntKind.i64.wrap (upS x8_ x1_.fst * ch) < (9223372036854775807:Int)) (.need (OkX (IntKind.i64.wrap (lo + IntKind.i64.wrap (IntKind.i64.wrap (wetS x4_ cw * IntKind.i64.wrap (to - maxI top x6_.fst)) * x5_.snd.snd) / x1_.fst)) (IntKind.i64.wrap (hi + upS x9_ x1_.fst)) ∧ OkF (IntKind.i64.wrap (IntKind.i64.wrap (IntKind.i64.wrap (wetS x4_ cw * IntKind.i64.wrap (to - maxI top x6_.fst)) * (sideS x5_).fst) / x1_.fst * cl) / (1000:Int)) (upS (IntKind.i64.wrap (upS x8_ x1_.fst * ch)) (1000:Int))) (.cond (wildS x2_) (.leaf (Sum.inr (Exit.exit (0:Nat),Lay.st L_fo2n2_1 (U_fo2 o) ((),(),false,())))) (.need ((List.length aft + List.length [(maxI top x6_.fst,(x2_.fst,x2_.snd.fst),x2_.snd.snd)]) * (40:Nat) ≤ (140737488355328:Nat)) (.leaf (Sum.inl ((),ks,legOf ks to,maxI top x6_.fst,i,top,l,n,j,sl,px,py,pz,pl,cm,cw,cl,ch,cb,(),(),(),(),x2_.fst,x2_.snd.fst,x2_.snd.snd.fst,x2_.snd.snd.snd,(),(),legOf ks to,aft ++ [(maxI top x6_.fst,(x2_.fst,x2_.snd.fst),x2_.snd.snd)],bef ++ [(lo,hi)],()))))))))))))))) (.need ((List.length bef + List.length [(lo,hi)]) * (16:Nat) ≤ (140737488355328:Nat)) (.need ((0:Int) < x1_.fst ∧ (-9223372036854775808:Int) < IntKind.i64.wrap (IntKind.i64.wrap (wetS x4_ cw * IntKind.i64.wrap (to - maxI top x6_.fst)) * x5_.snd.snd) ∧ IntKind.i64.wrap (IntKind.i64.wrap (wetS x4_ cw * IntKind.i64.wrap (to - maxI top x6_.fst)) * x5_.snd.snd) ≤ (9223372036854775807:Int)) (.need ((0:Int) < x1_.fst ∧ (-9223372036854775808:Int) < IntKind.i64.wrap (IntKind.i64.wrap (wetS x4_ cw * IntKind.i64.wrap (to - maxI top x6_.fst)) * x5_.snd.snd) ∧ IntKind.i64.wrap (IntKind.i64.wrap (wetS x4_ cw * IntKind.i64.wrap (to - maxI top x6_.fst)) * x5_.snd.snd) < (9223372036854775807:Int)) (.cond (wildS (IntKind.i64.wrap (lo + IntKind.i64.wrap (IntKind.i64.wrap (wetS x4_ cw * IntKind.i64.wrap (to - maxI top x6_.fst)) * x5_.snd.snd) / x1_.fst),IntKind.i64.wrap (hi + upS x9_ x1_.fst),tl,th)) (.leaf (Sum.inr (Exit.exit (0:Nat),Lay.st L_fo2n2_1 (U_fo2 o) ((),(),false,())))) (.need ((0:Int) < x1_.fst ∧ (-9223372036854775808:Int) < IntKind.i64.wrap (IntKind.i64.wrap (wetS x4_ cw * IntKind.i64.wrap (to - maxI top x6_.fst)) * (sideS x5_).fst) ∧ IntKind.i64.wrap (IntKind.i64.wrap (wetS x4_ cw * IntKind.i64.wrap (to - maxI top x6_.fst)) * (sideS x5_).fst) ≤ (9223372036854775807:Int)) (.need ((0:Int) < (1000:Int) ∧ (-9223372036854775808:Int) < IntKind.i64.wrap (IntKind.i64.wrap (IntKind.i64.wrap (wetS x4_ cw * IntKind.i64.wrap (to - maxI top x6_.fst)) * (sideS x5_).fst) / x1_.fst * cl) ∧ IntKind.i64.wrap (IntKind.i64.wrap (IntKind.i64.wrap (wetS x4_ cw * IntKind.i64.wrap (to - maxI top x6_.fst)) * (sideS x5_).fst) / x1_.fst * cl) ≤ (9223372036854775807:Int)) (.need ((0:Int) < x1_.fst ∧ (-9223372036854775808:Int) < IntKind.i64.wrap (IntKind.i64.wrap (wetS x4_ cw * IntKind.i64.wrap (to - maxI top x6_.fst)) * (sideS x5_).snd) ∧ IntKind.i64.wrap (IntKind.i64.wrap (wetS x4_ cw * IntKind.i64.wrap (to - maxI top x6_.fst)) * (sideS x5_).snd) < (9223372036854775807:Int)) (.need ((0:Int) < (1000:Int) ∧ (-9223372036854775808:Int) < IntKind.i64.wrap (upS x8_ x1_.fst * ch) ∧ IntKind.i64.wrap (upS x8_ x1_.fst * ch) < (9223372036854775807:Int)) (.need (OkX (IntKind.i64.wrap (lo + IntKind.i64.wrap (IntKind.i64.wrap (wetS x4_ cw * IntKind.i64.wrap (to - maxI top x6_.fst)) * x5_.snd.snd) / x1_.fst)) (IntKind.i64.wrap (hi + upS x9_ x1_.fst)) ∧ OkF (IntKind.i64.wrap (IntKind.i64.wrap (IntKind.i64.wrap (wetS x4_ cw * IntKind.i64.wrap (to - maxI top x6_.fst)) * (sideS x5_).fst) / x1_.fst * cl) / (1000:Int)) (upS (IntKind.i64.wrap (upS x8_ x1_.fst * ch)) (1000:Int))) (.cond (wildS x2_) (.leaf (Sum.inr (Exit.exit (0:Nat),Lay.st L_fo2n2_1 (U_fo2 o) ((),(),false,())))) (.need ((List.length aft + List.length [(maxI top x6_.fst,(x2_.fst,x2_.snd.fst),x2_.snd.snd)]) * (40:Nat) ≤ (140737488355328:Nat)) (.leaf (Sum.inl ((),ks,legOf ks to,maxI top x6_.fst,i,top,l,n,j,sl,px,py,pz,pl,cm,cw,cl,ch,cb,(),(),(),(),x2_.fst,x2_.snd.fst,x2_.snd.snd.fst,x2_.snd.snd.snd,(),(),legOf ks to,aft ++ [(maxI top x6_.fst,(x2_.fst,x2_.snd.fst),x2_.snd.snd)],bef ++ [(lo,hi)],()))))))))))))))))))) (.leaf (Sum.inr (Exit.exit (2:Nat),Lay.st L_fo2n2_0 (U_fo2 o) ((),ks,g,to,l,n,j,sl,px,py,pz,pl,cm,cw,cl,ch,cb,(),(),(),(),lo,hi,tl,th,(),(),below,aft,bef,())))):=by
  subst hx3_; subst hx2_; subst hx9_; subst hx8_; subst hx7_; subst hx6_; subst hx1_; subst hx5_; subst hx4_; kernel_rfl
def inv_fo2n2 (o:A_fo2):Unit × List K2 × Int × Int × Int × Int × List Tb × Int × Int × List Tb × Int × Int × Int × List V × Int × Int × Int × Int × Int × Unit × Unit × Unit × Unit × Int × Int × Int × Int × Unit × Unit × Int × List Hg × List R2 × Unit → Prop:=fun (_,ks,g,to,i,top,l,n,j,sl,px,py,pz,pl,cm,cw,cl,ch,cb,_,_,_,_,lo,hi,tl,th,_,_,below,aft,bef,_) => EnvOk sl ((px,py,pz),pl) (cm,cw,(cl,ch),cb) ∧ ks = knots (px,py,pz) pl ∧ cm = 2 ∧ 0 ≤ i ∧ i < sl.length ∧ 0 ≤ top ∧ top ≤ to ∧ to ≤ lenS ((px,py,pz),pl) ∧ to ≤ 1048576 ∧ LegAt ks to g ∧ StOk ((px,py,pz),pl) ks to below (lo,hi,tl,th) ∧ (aft.length:Int) + to ≤ 1048576 ∧ (bef.length:Int) + to ≤ 1048576
def O_fo2n2 (o:A_fo2):Unit × List K2 × Int × Int × Int × Int × List Tb × Int × Int × List Tb × Int × Int × Int × List V × Int × Int × Int × Int × Int × Unit × Unit × Unit × Unit × Int × Int × Int × Int × Unit × Unit × Int × List Hg × List R2 × Unit → Tree (Exit × St):=fun (_,ks,g,to,i,top,l,n,j,sl,px,py,pz,pl,cm,cw,cl,ch,cb,_,_,_,_,lo,hi,tl,th,_,_,below,aft,bef,_) => .cond (runF sl ((px,py,pz),pl) (cm,cw,(cl,ch),cb) below (lo,hi,tl,th) aft bef (tubeS ks i top to)).1 (.leaf (.exit 2,L_fo2n2_0.st (U_fo2 o) ((),ks,endLeg g (tubeS ks i top to),top,l,n,j,sl,px,py,pz,pl,cm,cw,cl,ch,cb,(),(),(),(),(runF sl ((px,py,pz),pl) (cm,cw,(cl,ch),cb) below (lo,hi,tl,th) aft bef (tubeS ks i top to)).2.2.1.1,(runF sl ((px,py,pz),pl) (cm,cw,(cl,ch),cb) below (lo,hi,tl,th) aft bef (tubeS ks i top to)).2.2.1.2.1,(runF sl ((px,py,pz),pl) (cm,cw,(cl,ch),cb) below (lo,hi,tl,th) aft bef (tubeS ks i top to)).2.2.1.2.2.1,(runF sl ((px,py,pz),pl) (cm,cw,(cl,ch),cb) below (lo,hi,tl,th) aft bef (tubeS ks i top to)).2.2.1.2.2.2,(),(),(runF sl ((px,py,pz),pl) (cm,cw,(cl,ch),cb) below (lo,hi,tl,th) aft bef (tubeS ks i top to)).2.1,(runF sl ((px,py,pz),pl) (cm,cw,(cl,ch),cb) below (lo,hi,tl,th) aft bef (tubeS ks i top to)).2.2.2.1,(runF sl ((px,py,pz),pl) (cm,cw,(cl,ch),cb) below (lo,hi,tl,th) aft bef (tubeS ks i top to)).2.2.2.2,()))) (.leaf (.exit 0,L_fo2n2_1.st (U_fo2 o) ((),(),false,())))
def R_fo2n2 (o:A_fo2):LRun:=runOf 65 L_fo2n2 (fun x => x) (inv_fo2n2 o) (O_fo2n2 o)
set_option maxHeartbeats 4000000 in
theorem K_fo2n2 (o:A_fo2):LoopOk P (Y_fo2 o) 65 none (U_fo2 o) C_fo2n2 (R_fo2n2 o):=by
  refine loop_of hm (cx:=[]) [(4,R_fo2n4 o)] (xl:=X_fo2n2) (α:=Unit × List K2 × Int × Int × Int × Int × List Tb × Int × Int × List Tb × Int × Int × Int × List V × Int × Int × Int × Int × Int × Unit × Unit × Unit × Unit × Int × Int × Int × Int × Unit × Unit × Int × List Hg × List R2 × Unit) (fun x => x) (fun (_,ks,g,to,i,top,_) => (to - top).toNat) (fun _ => rfl) (by kernel_rfl) (by kernel_rfl) ?_ (by kernel_rfl) ⟨K_fo2n4 o,trivial⟩ ?_
  · intro e S L' h
    unfold X_fo2n2 at h
    split at h <;> first | (cases h; done) | (cases h; kernel_rfl) | (rcases bif_some h with h | h <;> cases h <;> kernel_rfl)
  · rintro ⟨⟨⟩,ks,g,to,i,top,l,n,j,sl,px,py,pz,pl,cm,cw,cl,ch,cb,⟨⟩,⟨⟩,⟨⟩,⟨⟩,lo,hi,tl,th,⟨⟩,⟨⟩,below,aft,bef,⟨⟩⟩ hinv Q hQ
    refine hold_of_eq (B_fo2n2 o ks g to i top l n j sl px py pz pl cm cw cl ch cb lo hi tl th below aft bef _ rfl _ rfl _ rfl _ rfl _ rfl _ rfl _ rfl _ rfl _ rfl) ?_
    obtain ⟨henv,hks,rfl,i0,i1,h0,h1,h2,h3,hg,hst,ha,hb⟩:=hinv
    have hd:Down ks (lenS ((px,py,pz),pl)):=by rw [hks]; exact fits_down henv.fits
    have hkl:(ks.length:Int) = pl.length + 1:=by
      rw [hks]
      have:=knots_length (px,py,pz) pl
      omega
    have hp20:pl.length ≤ 20:=checkS_len (fitsS_ok henv.fits).2.1
    unfold O_fo2n2 at hQ
    dsimp only at hQ
    have hk:∀ e:Int,(ks.getD e.toNat (0,0)).1 = knotA ks e:=fun _ => rfl
    rw [hk]
    refine ⟨fun c1 => ?_,fun c1 => ?_⟩
    · have c1:to > top:=of_decide_eq_true c1
      have t0:0 < to:=by omega
      obtain ⟨l1,l2,l3,l4⟩:=legOf_ok hd t0 h2
      have hm:top ≤ maxI top (knotA ks (legOf ks to)) ∧ maxI top (knotA ks (legOf ks to)) < to ∧ knotA ks (legOf ks to) ≤ maxI top (knotA ks (legOf ks to)):=by rw [maxI_eq]; omega
      rw [tubeS_step hd i h0 c1 h2,endLeg_cons,runF_cons] at hQ
      generalize maxI top (knotA ks (legOf ks to)) = fr at *
      have hpc:=henv.pc' hks i0 i1 t0 h2 h3 (show 0 ≤ fr by omega) hm.2.1
      obtain ⟨hB,ho1⟩:=step1_ok' henv hks hst t0 h2 i fr
      have hnext:=step_next' henv hks hst t0 h2 h3 i0 i1 (show 0 ≤ fr by omega) hm.2.1 hm.2.2
      obtain ⟨hF,hw1,hw2,hd1,hu1⟩:=hpc.rub henv.case.mu
      have hwp:=hpc.wpos
      have hwm:=hpc.wmax
      have hleg:=hpc.leg
      have hfair:=hpc.tube
      have hmu:=henv.case.mu
      have eW:pcW sl (2,cw,(cl,ch),cb) (i,legOf ks to,fr,to) = wetS (sl.getD i.toNat (0,0,0,0,0,0,0,0,0)) cw * (to - fr):=rfl
      have eV:pcV ((px,py,pz),pl) (i,legOf ks to,fr,to) = pl.getD (legOf ks to).toNat (0,0,0):=rfl
      have eT:pcT sl (i,legOf ks to,fr,to) = sl.getD i.toNat (0,0,0,0,0,0,0,0,0):=rfl
      dsimp only at hQ hB hnext
      have hs1:step1 sl ((px,py,pz),pl) (2,cw,(cl,ch),cb) below (i,legOf ks to,fr,to) (lo,hi,tl,th) = if below ≥ 0 ∧ below ≠ legOf ks to then bentS 2 (cl,ch) (bendV (pl.getD (legOf ks to).toNat (0,0,0)) (pl.getD below.toNat (0,0,0))) (sl.getD i.toNat (0,0,0,0,0,0,0,0,0)).2.2.2.2.1 (lo,hi,tl,th) else (lo,hi,tl,th):=rfl
      have hs2:∀ x,step2 sl ((px,py,pz),pl) (2,cw,(cl,ch),cb) (i,legOf ks to,fr,to) x = (x.1 + pcW sl (2,cw,(cl,ch),cb) (i,legOf ks to,fr,to) * (pl.getD (legOf ks to).toNat (0,0,0)).2.2 / (wholeS (pl.getD (legOf ks to).toNat (0,0,0))).1,x.2.1 + upS (pcW sl (2,cw,(cl,ch),cb) (i,legOf ks to,fr,to) * (pl.getD (legOf ks to).toNat (0,0,0)).2.2) (wholeS (pl.getD (legOf ks to).toNat (0,0,0))).1,x.2.2):=fun _ => rfl
      have hs3:∀ x,step3 sl ((px,py,pz),pl) (2,cw,(cl,ch),cb) (i,legOf ks to,fr,to) x = rubS 2 (pcW sl (2,cw,(cl,ch),cb) (i,legOf ks to,fr,to) * (sideS (pl.getD (legOf ks to).toNat (0,0,0))).1 / (wholeS (pl.getD (legOf ks to).toNat (0,0,0))).1 * cl / 1000) (upS (upS (pcW sl (2,cw,(cl,ch),cb) (i,legOf ks to,fr,to) * (sideS (pl.getD (legOf ks to).toNat (0,0,0))).2) (wholeS (pl.getD (legOf ks to).toNat (0,0,0))).1 * ch) 1000) (sl.getD i.toNat (0,0,0,0,0,0,0,0,0)).2.2.2.2.1 x:=fun _ => rfl
      have hF' : OkF (pcW sl (2,cw,(cl,ch),cb) (i,legOf ks to,fr,to) * (sideS (pl.getD (legOf ks to).toNat (0,0,0))).1 / (wholeS (pl.getD (legOf ks to).toNat (0,0,0))).1 * cl / 1000) (upS (upS (pcW sl (2,cw,(cl,ch),cb) (i,legOf ks to,fr,to) * (sideS (pl.getD (legOf ks to).toNat (0,0,0))).2) (wholeS (pl.getD (legOf ks to).toNat (0,0,0))).1 * ch) 1000):=hF
      rw [eV] at hw1 hw2 hd1 hu1 hleg
      rw [eT] at hfair
      have eR:=root_leg hleg
      have hz:=leg_z hleg
      have hn:=hleg.2
      unfold vdot at eR
      rw [W_id (n:=to - fr) (by omega) (by omega)]
      rw [← eW]
      generalize pcW sl (2,cw,(cl,ch),cb) (i,legOf ks to,fr,to) = w at *
      generalize pl.getD (legOf ks to).toNat (0,0,0) = v at *
      generalize sl.getD i.toNat (0,0,0,0,0,0,0,0,0) = t at *
      rw [eR]
      have hwz:=mulB (a:=w) (b:=v.2.2) (A:=4194304000000) (B:=131072) (by omega) hz
      have hwzd:=div_rng (x:=w * v.2.2) (b:=(wholeS v).1) (M:=549755813888000000) (by omega) (by decide) (by omega) (by omega)
      have hwzu : -549755813888000000 ≤ upS (w * v.2.2) (wholeS v).1 ∧ upS (w * v.2.2) (wholeS v).1 ≤ 549755813888000000:=by
        have:=div_rng (x:=-(w * v.2.2)) (b:=(wholeS v).1) (M:=549755813888000000) (by omega) (by decide) (by omega) (by omega)
        unfold upS; omega
      obtain ⟨hm1,hm2,hm3⟩:=hmu
      dsimp only at hm1 hm2 hm3
      have hcl:=mul_rng (a:=w * (sideS v).1 / (wholeS v).1) (b:=cl) (A:=8388608000000) (B:=600) hd1.1 hd1.2 hm1 (by omega)
      have hch:=mul_rng (a:=upS (w * (sideS v).2) (wholeS v).1) (b:=ch) (A:=8388608000000) (B:=600) hu1.1 hu1.2 (by omega) hm3
      rw [W_id (n:=w) (by omega) (by omega),W_id (n:=w * v.2.2) (by omega) (by omega),W_id (n:=w * (sideS v).1) (by omega) (by omega),W_id (n:=w * (sideS v).1 / (wholeS v).1 * cl) (by omega) (by omega),W_id (n:=w * (sideS v).2) (by omega) (by omega),W_id (n:=upS (w * (sideS v).2) (wholeS v).1 * ch) (by omega) (by omega)]
      generalize w * (sideS v).1 / (wholeS v).1 * cl / 1000 = fa at *
      generalize upS (upS (w * (sideS v).2) (wholeS v).1 * ch) 1000 = fb at *
      refine ⟨⟨_,hd,t0,h2,hg,by omega⟩,⟨l1,by omega⟩,⟨i0,i1⟩,⟨l1,by omega⟩,?_⟩
      obtain ⟨hx1,hx2,hx3⟩:=hst.x
      dsimp only at hx1 hx2 hx3
      have calm0:=calm hst.x
      refine ⟨fun c2 => ?_,fun c2 => ?_⟩
      · have c2:below ≥ 0:=of_decide_eq_true c2
        refine ⟨fun c3 => ?_,fun c3 => ?_⟩
        · have c3:below ≠ legOf ks to:=by simpa using c3
          have hBv:=hB c2 c3
          rw [if_pos ⟨c2,c3⟩] at hs1
          rw [hs1] at hQ hnext ho1
          refine ⟨⟨c2,hst.hi⟩,⟨⟨hx1,hx2,hx3⟩,⟨hm1,hm2,hm3⟩,hBv⟩,fun c4 => ?_,fun c4 => ?_⟩
          · rw [if_pos c4] at hQ
            exact hQ.2 rfl
          · have w1:¬ wildS (bentS 2 (cl,ch) (bendV v (pl.getD below.toNat (0,0,0))) t.2.2.2.2.1 (lo,hi,tl,th)) = true:=by rw [c4]; exact Bool.false_ne_true
            simp only [hs2,hs3] at hQ hnext
            clear hs1 hs2 hs3 hBv hB hF c4
            generalize bentS 2 (cl,ch) (bendV v (pl.getD below.toNat (0,0,0))) t.2.2.2.2.1 (lo,hi,tl,th) = X at *
            obtain ⟨p1,p2,p3,p4⟩:=X
            obtain ⟨hy1,hy2,hy3⟩:=tame ho1 w1
            dsimp only at hQ hnext hy1 hy2 hy3 ⊢
            rw [W_id (n:=p1 + w * v.2.2 / (wholeS v).1) (by omega) (by omega),W_id (n:=p2 + upS (w * v.2.2) (wholeS v).1) (by omega) (by omega)]
            have o2:p1 + w * v.2.2 / (wholeS v).1 ≤ p2 + upS (w * v.2.2) (wholeS v).1:=by
              have:=floor_ceil (w * v.2.2) (wholeS v).1 (by omega)
              omega
            generalize p1 + w * v.2.2 / (wholeS v).1 = B1 at *
            generalize p2 + upS (w * v.2.2) (wholeS v).1 = B2 at *
            refine ⟨by simp only [List.length_cons,List.length_nil]; omega,⟨by omega,by omega,by omega⟩,⟨by omega,by omega,by omega⟩,fun c5 => ?_,fun c5 => ?_⟩
            · rw [if_neg w1,if_pos c5] at hQ
              exact hQ.2 rfl
            · have c5' : ¬ wildS (B1,B2,p3,p4) = true:=by rw [c5]; exact Bool.false_ne_true
              have hX2:OkX B1 B2:=tame (x:=(B1,B2,p3,p4)) o2 c5'
              refine ⟨⟨by omega,by omega,by omega⟩,⟨by decide,by omega,by omega⟩,⟨by omega,by omega,by omega⟩,⟨by decide,by omega,by omega⟩,⟨hX2,hF'⟩,fun c6 => ?_,fun c6 => ?_⟩
              · rw [if_neg w1,if_neg c5',if_pos c6] at hQ
                exact hQ.2 rfl
              · have c6' : ¬ wildS (rubS 2 fa fb t.2.2.2.2.1 (B1,B2,p3,p4)) = true:=by rw [c6]; exact Bool.false_ne_true
                have hst':=hnext c6'
                rw [if_neg w1,if_neg c5',if_neg c6'] at hQ
                generalize rubS 2 fa fb t.2.2.2.2.1 (B1,B2,p3,p4) = Y at *
                obtain ⟨y1,y2,y3,y4⟩:=Y
                exact ⟨by simp only [List.length_cons,List.length_nil]; omega,⟨⟨henv,hks,rfl,i0,i1,h0,hm.1,by omega,by omega,⟨l1,l2,fun hp => legOf_mono hd hp (by omega) h2⟩,hst',by simp only [List.length_append,List.length_cons,List.length_nil]; omega,by simp only [List.length_append,List.length_cons,List.length_nil]; omega⟩,by show (fr - top).toNat < (to - top).toNat; omega⟩,hQ⟩
        · have c3:below = legOf ks to:=by simpa using c3
          have w1:=calm0
          rw [if_neg (by omega)] at hs1
          rw [hs1] at hQ hnext
          simp only [hs2,hs3] at hQ hnext
          clear hs1 hs2 hs3 hB hF
          try dsimp only at hQ hnext
          rw [W_id (n:=lo + w * v.2.2 / (wholeS v).1) (by omega) (by omega),W_id (n:=hi + upS (w * v.2.2) (wholeS v).1) (by omega) (by omega)]
          have o2:lo + w * v.2.2 / (wholeS v).1 ≤ hi + upS (w * v.2.2) (wholeS v).1:=by
            have:=floor_ceil (w * v.2.2) (wholeS v).1 (by omega)
            omega
          generalize lo + w * v.2.2 / (wholeS v).1 = B1 at *
          generalize hi + upS (w * v.2.2) (wholeS v).1 = B2 at *
          refine ⟨by simp only [List.length_cons,List.length_nil]; omega,⟨by omega,by omega,by omega⟩,⟨by omega,by omega,by omega⟩,fun c5 => ?_,fun c5 => ?_⟩
          · rw [if_neg w1,if_pos c5] at hQ
            exact hQ.2 rfl
          · have c5' : ¬ wildS (B1,B2,tl,th) = true:=by rw [c5]; exact Bool.false_ne_true
            have hX2:OkX B1 B2:=tame (x:=(B1,B2,tl,th)) o2 c5'
            refine ⟨⟨by omega,by omega,by omega⟩,⟨by decide,by omega,by omega⟩,⟨by omega,by omega,by omega⟩,⟨by decide,by omega,by omega⟩,⟨hX2,hF'⟩,fun c6 => ?_,fun c6 => ?_⟩
            · rw [if_neg w1,if_neg c5',if_pos c6] at hQ
              exact hQ.2 rfl
            · have c6' : ¬ wildS (rubS 2 fa fb t.2.2.2.2.1 (B1,B2,tl,th)) = true:=by rw [c6]; exact Bool.false_ne_true
              have hst':=hnext c6'
              rw [if_neg w1,if_neg c5',if_neg c6'] at hQ
              generalize rubS 2 fa fb t.2.2.2.2.1 (B1,B2,tl,th) = Y at *
              obtain ⟨y1,y2,y3,y4⟩:=Y
              exact ⟨by simp only [List.length_cons,List.length_nil]; omega,⟨⟨henv,hks,rfl,i0,i1,h0,hm.1,by omega,by omega,⟨l1,l2,fun hp => legOf_mono hd hp (by omega) h2⟩,hst',by simp only [List.length_append,List.length_cons,List.length_nil]; omega,by simp only [List.length_append,List.length_cons,List.length_nil]; omega⟩,by show (fr - top).toNat < (to - top).toNat; omega⟩,hQ⟩
      · have c2:¬ below ≥ 0:=of_decide_eq_false c2
        have w1:=calm0
        rw [if_neg (by omega)] at hs1
        rw [hs1] at hQ hnext
        simp only [hs2,hs3] at hQ hnext
        clear hs1 hs2 hs3 hB hF
        try dsimp only at hQ hnext
        rw [W_id (n:=lo + w * v.2.2 / (wholeS v).1) (by omega) (by omega),W_id (n:=hi + upS (w * v.2.2) (wholeS v).1) (by omega) (by omega)]
        have o2:lo + w * v.2.2 / (wholeS v).1 ≤ hi + upS (w * v.2.2) (wholeS v).1:=by
          have:=floor_ceil (w * v.2.2) (wholeS v).1 (by omega)
          omega
        generalize lo + w * v.2.2 / (wholeS v).1 = B1 at *
        generalize hi + upS (w * v.2.2) (wholeS v).1 = B2 at *
        refine ⟨by simp only [List.length_cons,List.length_nil]; omega,⟨by omega,by omega,by omega⟩,⟨by omega,by omega,by omega⟩,fun c5 => ?_,fun c5 => ?_⟩
        · rw [if_neg w1,if_pos c5] at hQ
          exact hQ.2 rfl
        · have c5' : ¬ wildS (B1,B2,tl,th) = true:=by rw [c5]; exact Bool.false_ne_true
          have hX2:OkX B1 B2:=tame (x:=(B1,B2,tl,th)) o2 c5'
          refine ⟨⟨by omega,by omega,by omega⟩,⟨by decide,by omega,by omega⟩,⟨by omega,by omega,by omega⟩,⟨by decide,by omega,by omega⟩,⟨hX2,hF'⟩,fun c6 => ?_,fun c6 => ?_⟩
          · rw [if_neg w1,if_neg c5',if_pos c6] at hQ
            exact hQ.2 rfl
          · have c6' : ¬ wildS (rubS 2 fa fb t.2.2.2.2.1 (B1,B2,tl,th)) = true:=by rw [c6]; exact Bool.false_ne_true
            have hst':=hnext c6'
            rw [if_neg w1,if_neg c5',if_neg c6'] at hQ
            generalize rubS 2 fa fb t.2.2.2.2.1 (B1,B2,tl,th) = Y at *
            obtain ⟨y1,y2,y3,y4⟩:=Y
            exact ⟨by simp only [List.length_cons,List.length_nil]; omega,⟨⟨henv,hks,rfl,i0,i1,h0,hm.1,by omega,by omega,⟨l1,l2,fun hp => legOf_mono hd hp (by omega) h2⟩,hst',by simp only [List.length_append,List.length_cons,List.length_nil]; omega,by simp only [List.length_append,List.length_cons,List.length_nil]; omega⟩,by show (fr - top).toNat < (to - top).toNat; omega⟩,hQ⟩
    · have c1:¬ to > top:=of_decide_eq_false c1
      have e:to = top:=by omega
      subst e
      rw [tubeS_nil _ _ _ (Int.le_refl _),endLeg_nil,runF_nil] at hQ
      exact hQ.1 rfl
def L_fo2nl:Lay:={ slots:=[(0,.yld 990),(4,.val tKs),(5,.val tI),(6,.val tI),(21,.val tTs),(22,.val tI),(23,.val tI)],boxes:=[(4205,[.val tTs]),(5205,[.val tI,.val tI,.val tI,.val tVs]),(6205,[.val tI,.val tI,.val tI,.val tI,.val tI]),(7205,[.any]),(8205,[.any]),(9205,[.any]),(10205,[.ptr 23205 0]),(23205,[.val tI,.val tI,.val tI,.val tI]),(11205,[.fn 111,.fn 112]),(12205,[.val tI]),(13205,[.row 67 tHg]),(14205,[.row 31 tPart])],recs:=[(990,.ready)] }
def L_fo2nl_0:Lay:={ slots:=[],boxes:=[(7205,[.any]),(8205,[.any]),(9205,[.any]),(13205,[.row 67 tHg]),(14205,[.row 31 tPart])],recs:=[(990,.ready)] }
def L_fo2nl_1:Lay:={ slots:=[],boxes:=[(7205,[.nils]),(8205,[.nils]),(9205,[.val .bool])],recs:=[(990,.done .ret)] }
def X_fo2nl:Exit → St → Option Lay
  | .exit 0,S => bif recReady 990 S then some L_fo2nl_0 else some L_fo2nl_1
  | _,_ => none
abbrev C_fo2nl:Code:=loopC (bodyOf Tryz.f98) 0
theorem B_fo2nl (o:A_fo2) (ks:List K2) (g to:Int) (l:List Tb) (n j:Int) (sl:List Tb) (px py pz:Int) (pl:List V) (cm cw cl ch cb:Int) (lo hi tl th:Int) (below:Int) (aft:List Hg) (bef:List R2):loopBodyA (P:=P) [] (lpOf [(2,R_fo2n2 o)]) (Y_fo2 o) 65 (U_fo2 o) (inner C_fo2nl) L_fo2nl X_fo2nl (α:=Unit × List K2 × Int × Int × List Tb × Int × Int × List Tb × Int × Int × Int × List V × Int × Int × Int × Int × Int × Unit × Unit × Unit × Unit × Int × Int × Int × Int × Unit × Unit × Int × List Hg × List R2 × Unit) (fun x => x) (fun x => x) ((),ks,g,to,l,n,j,sl,px,py,pz,pl,cm,cw,cl,ch,cb,(),(),(),(),lo,hi,tl,th,(),(),below,aft,bef,()) =
  Tree.cond (decide (j < n)) (.need ((0:Int) ≤ j ∧ j < (l.length:Int)) (.need (inv_fo2n2 o ((),ks,g,to,j,IntKind.i64.wrap (to - IntKind.i64.wrap ((List.getD l (Int.toNat j) (0,0,0,0,0,0,0,0,0)).fst * (List.getD l (Int.toNat j) (0,0,0,0,0,0,0,0,0)).snd.fst)),l,n,j,sl,px,py,pz,pl,cm,cw,cl,ch,cb,(),(),(),(),lo,hi,tl,th,(),(),below,aft,bef,())) (.cond (runF sl ((px,py,pz),pl) (cm,cw,(cl,ch),cb) below (lo,hi,tl,th) aft bef (tubeS ks j (IntKind.i64.wrap (to - IntKind.i64.wrap ((List.getD l (Int.toNat j) (0,0,0,0,0,0,0,0,0)).fst * (List.getD l (Int.toNat j) (0,0,0,0,0,0,0,0,0)).snd.fst))) to)).fst (.leaf (Sum.inl ((),ks,endLeg g (tubeS ks j (IntKind.i64.wrap (to - IntKind.i64.wrap ((List.getD l (Int.toNat j) (0,0,0,0,0,0,0,0,0)).fst * (List.getD l (Int.toNat j) (0,0,0,0,0,0,0,0,0)).snd.fst))) to),IntKind.i64.wrap (to - IntKind.i64.wrap ((List.getD l (Int.toNat j) (0,0,0,0,0,0,0,0,0)).fst * (List.getD l (Int.toNat j) (0,0,0,0,0,0,0,0,0)).snd.fst)),l,n,IntKind.i64.wrap (j + (1:Int)),sl,px,py,pz,pl,cm,cw,cl,ch,cb,(),(),(),(),(runF sl ((px,py,pz),pl) (cm,cw,(cl,ch),cb) below (lo,hi,tl,th) aft bef (tubeS ks j (IntKind.i64.wrap (to - IntKind.i64.wrap ((List.getD l (Int.toNat j) (0,0,0,0,0,0,0,0,0)).fst * (List.getD l (Int.toNat j) (0,0,0,0,0,0,0,0,0)).snd.fst))) to)).snd.snd.fst.fst,(runF sl ((px,py,pz),pl) (cm,cw,(cl,ch),cb) below (lo,hi,tl,th) aft bef (tubeS ks j (IntKind.i64.wrap (to - IntKind.i64.wrap ((List.getD l (Int.toNat j) (0,0,0,0,0,0,0,0,0)).fst * (List.getD l (Int.toNat j) (0,0,0,0,0,0,0,0,0)).snd.fst))) to)).snd.snd.fst.snd.fst,(runF sl ((px,py,pz),pl) (cm,cw,(cl,ch),cb) below (lo,hi,tl,th) aft bef (tubeS ks j (IntKind.i64.wrap (to - IntKind.i64.wrap ((List.getD l (Int.toNat j) (0,0,0,0,0,0,0,0,0)).fst * (List.getD l (Int.toNat j) (0,0,0,0,0,0,0,0,0)).snd.fst))) to)).snd.snd.fst.snd.snd.fst,(runF sl ((px,py,pz),pl) (cm,cw,(cl,ch),cb) below (lo,hi,tl,th) aft bef (tubeS ks j (IntKind.i64.wrap (to - IntKind.i64.wrap ((List.getD l (Int.toNat j) (0,0,0,0,0,0,0,0,0)).fst * (List.getD l (Int.toNat j) (0,0,0,0,0,0,0,0,0)).snd.fst))) to)).snd.snd.fst.snd.snd.snd,(),(),(runF sl ((px,py,pz),pl) (cm,cw,(cl,ch),cb) below (lo,hi,tl,th) aft bef (tubeS ks j (IntKind.i64.wrap (to - IntKind.i64.wrap ((List.getD l (Int.toNat j) (0,0,0,0,0,0,0,0,0)).fst * (List.getD l (Int.toNat j) (0,0,0,0,0,0,0,0,0)).snd.fst))) to)).snd.fst,(runF sl ((px,py,pz),pl) (cm,cw,(cl,ch),cb) below (lo,hi,tl,th) aft bef (tubeS ks j (IntKind.i64.wrap (to - IntKind.i64.wrap ((List.getD l (Int.toNat j) (0,0,0,0,0,0,0,0,0)).fst * (List.getD l (Int.toNat j) (0,0,0,0,0,0,0,0,0)).snd.fst))) to)).snd.snd.snd.fst,(runF sl ((px,py,pz),pl) (cm,cw,(cl,ch),cb) below (lo,hi,tl,th) aft bef (tubeS ks j (IntKind.i64.wrap (to - IntKind.i64.wrap ((List.getD l (Int.toNat j) (0,0,0,0,0,0,0,0,0)).fst * (List.getD l (Int.toNat j) (0,0,0,0,0,0,0,0,0)).snd.fst))) to)).snd.snd.snd.snd,()))) (.leaf (Sum.inr (Exit.exit (0:Nat),Lay.st L_fo2nl_1 (U_fo2 o) ((),(),false,()))))))) (.leaf (Sum.inr (Exit.exit (0:Nat),Lay.st L_fo2nl_0 (U_fo2 o) ((),(),(),aft,bef,())))):=by kernel_rfl
def inv_fo2nl (o:A_fo2):Unit × List K2 × Int × Int × List Tb × Int × Int × List Tb × Int × Int × Int × List V × Int × Int × Int × Int × Int × Unit × Unit × Unit × Unit × Int × Int × Int × Int × Unit × Unit × Int × List Hg × List R2 × Unit → Prop:=fun (_,ks,g,to,l,n,j,sl,px,py,pz,pl,cm,cw,cl,ch,cb,_,_,_,_,lo,hi,tl,th,_,_,below,aft,bef,_) => EnvOk sl ((px,py,pz),pl) (cm,cw,(cl,ch),cb) ∧ ks = knots (px,py,pz) pl ∧ cm = 2 ∧ l = sl ∧ n = l.length ∧ 0 ≤ j ∧ j ≤ n ∧ to = sumT (l.drop j.toNat) ∧ to ≤ lenS ((px,py,pz),pl) ∧ to ≤ 1048576 ∧ LegAt ks to g ∧ StOk ((px,py,pz),pl) ks to below (lo,hi,tl,th) ∧ (aft.length:Int) + to ≤ 1048576 ∧ (bef.length:Int) + to ≤ 1048576
def O_fo2nl (o:A_fo2):Unit × List K2 × Int × Int × List Tb × Int × Int × List Tb × Int × Int × Int × List V × Int × Int × Int × Int × Int × Unit × Unit × Unit × Unit × Int × Int × Int × Int × Unit × Unit × Int × List Hg × List R2 × Unit → Tree (Exit × St):=fun (_,ks,g,to,l,n,j,sl,px,py,pz,pl,cm,cw,cl,ch,cb,_,_,_,_,lo,hi,tl,th,_,_,below,aft,bef,_) => .cond (runF sl ((px,py,pz),pl) (cm,cw,(cl,ch),cb) below (lo,hi,tl,th) aft bef (pcsL ks j to (l.drop j.toNat))).1 (.leaf (.exit 0,L_fo2nl_0.st (U_fo2 o) ((),(),(),(runF sl ((px,py,pz),pl) (cm,cw,(cl,ch),cb) below (lo,hi,tl,th) aft bef (pcsL ks j to (l.drop j.toNat))).2.2.2.1,(runF sl ((px,py,pz),pl) (cm,cw,(cl,ch),cb) below (lo,hi,tl,th) aft bef (pcsL ks j to (l.drop j.toNat))).2.2.2.2,()))) (.leaf (.exit 0,L_fo2nl_1.st (U_fo2 o) ((),(),false,())))
def R_fo2nl (o:A_fo2):LRun:=runOf 65 L_fo2nl (fun x => x) (inv_fo2nl o) (O_fo2nl o)
set_option maxHeartbeats 4000000 in
theorem K_fo2nl (o:A_fo2):LoopOk P (Y_fo2 o) 65 none (U_fo2 o) C_fo2nl (R_fo2nl o):=by
  refine loop_of hm (cx:=[]) [(2,R_fo2n2 o)] (xl:=X_fo2nl) (α:=Unit × List K2 × Int × Int × List Tb × Int × Int × List Tb × Int × Int × Int × List V × Int × Int × Int × Int × Int × Unit × Unit × Unit × Unit × Int × Int × Int × Int × Unit × Unit × Int × List Hg × List R2 × Unit) (fun x => x) (fun (_,ks,g,to,l,n,j,_) => (n - j).toNat) (fun _ => rfl) (by kernel_rfl) (by kernel_rfl) ?_ (by kernel_rfl) ⟨K_fo2n2 o,trivial⟩ ?_
  · intro e S L' h
    unfold X_fo2nl at h
    split at h <;> first | (cases h; done) | (cases h; kernel_rfl) | (rcases bif_some h with h | h <;> cases h <;> kernel_rfl)
  · rintro ⟨⟨⟩,ks,g,to,l,n,j,sl,px,py,pz,pl,cm,cw,cl,ch,cb,⟨⟩,⟨⟩,⟨⟩,⟨⟩,lo,hi,tl,th,⟨⟩,⟨⟩,below,aft,bef,⟨⟩⟩ hinv Q hQ
    refine hold_of_eq (B_fo2nl o ks g to l n j sl px py pz pl cm cw cl ch cb lo hi tl th below aft bef) ?_
    obtain ⟨henv,hks,rfl,rfl,rfl,h0,h1,rfl,h5,h6,h7,hst,ha,hb⟩:=hinv
    have hd:Down ks (lenS ((px,py,pz),pl)):=by rw [hks]; exact fits_down henv.fits
    obtain ⟨_,g2,g3,g4⟩:=checkT_ok (fitsS_ok henv.fits).1
    unfold O_fo2nl at hQ
    dsimp only at hQ
    rw [W_id (n:=j + 1) (by omega) (by omega)]
    refine ⟨fun c1 => ?_,fun c1 => ?_⟩
    · have c1:j < (l.length:Int):=of_decide_eq_true c1
      have hf:=(g3 _ (mem_getD (d:=zT) h0 c1)).prod
      have hs:=sumT_step h0 c1
      have hr:=(sumT_rng (l.drop (j + 1).toNat) (g3.drop _)).1
      rw [pcsL_step h0 c1,runF_append] at hQ
      generalize sumT (l.drop j.toNat) = to at *
      generalize l.getD j.toNat zT = u at *
      rw [W_id (n:=u.1 * u.2.1) (by omega) (by omega),W_id (n:=to - u.1 * u.2.1) (by omega) (by omega)]
      have e:to - u.1 * u.2.1 = sumT (l.drop (j + 1).toNat):=by omega
      rw [e] at hQ ⊢
      have hg:=legAt_end hd j hr _ to g (Nat.le_refl _) (by omega) h5 h7
      have hro:=runF_ok' henv hks h0 c1 hr to below (lo,hi,tl,th) aft bef (by omega) h5 h6 hst
      refine ⟨⟨h0,c1⟩,⟨henv,hks,rfl,h0,c1,hr,by omega,h5,h6,h7,hst,ha,hb⟩,fun c2 => ?_,fun c2 => ?_⟩
      · obtain ⟨q1,q2,q3⟩:=hro c2
        rw [if_pos c2] at hQ
        exact ⟨⟨⟨henv,hks,rfl,rfl,rfl,by omega,by omega,rfl,by omega,by omega,hg,q1,by omega,by omega⟩,by show ((l.length:Int) - (j + 1)).toNat < ((l.length:Int) - j).toNat; omega⟩,hQ⟩
      · rw [if_neg (by rw [c2]; exact Bool.false_ne_true)] at hQ
        exact hQ.2 c2
    · have c1:¬ j < (l.length:Int):=of_decide_eq_false c1
      rw [drop_end c1,pcsL_nil,runF_nil] at hQ
      exact hQ.1 rfl
theorem G_fo2 (sl:List Tb) (px py pz:Int) (pl:List V) (cm cw cl ch cb:Int) (lo hi tl th:Int) (below:Int) (aft:List Hg) (bef:List R2) (qx qy qz:Int) (ql:List V) (q2:List Tb):rangeTree (P:=P) [c_Bend.gc,c_wild.gc,c_root.gc,c_Wet.gc,c_down.gc,c_up.gc,c_add,c_Side.gc,c_bendD.gc,c_rubD.gc,c_Vert.gc,c_plength.gc] (lpOf [(0,R_fo2nl ((),(),(),(),(),(),(),(),(),(),(),(),sl,px,py,pz,pl,cm,cw,cl,ch,cb,(),(),(),(),lo,hi,tl,th,(),(),below,aft,bef,qx,qy,qz,ql,q2,()))]) [] 205 noU 990 (rgFn C_fo2) (rgPs C_fo2).toList (rgAssign C_fo2) (rgBody C_fo2) X_fo2 (L_fo2.st noU ((),(),(),(),(),(),(),(),(),(),(),(),sl,px,py,pz,pl,cm,cw,cl,ch,cb,(),(),(),(),lo,hi,tl,th,(),(),below,aft,bef,qx,qy,qz,ql,q2,())) =
  Tree.need (List.length q2 ≤ (8:Nat) ∧ AllF q2) (.need (inv_fo2nl ((),(),(),(),(),(),(),(),(),(),(),(),sl,px,py,pz,pl,cm,cw,cl,ch,cb,(),(),(),(),lo,hi,tl,th,(),(),below,aft,bef,qx,qy,qz,ql,q2,()) ((),vertS ((qx,qy,qz),ql),IntKind.i64.wrap ((ql.length:Int) - (1:Int)),sumT q2,q2,(q2.length:Int),(0:Int),sl,px,py,pz,pl,cm,cw,cl,ch,cb,(),(),(),(),lo,hi,tl,th,(),(),below,aft,bef,())) (.cond (runF sl ((px,py,pz),pl) (cm,cw,(cl,ch),cb) below (lo,hi,tl,th) aft bef (pcsL (vertS ((qx,qy,qz),ql)) (0:Int) (sumT q2) (List.drop (Int.toNat (0:Int)) q2))).fst (.leaf (Exit.normal,Lay.st L_fo2_0 noU ((),(),(),(),(),(),(),(),(runF sl ((px,py,pz),pl) (cm,cw,(cl,ch),cb) below (lo,hi,tl,th) aft bef (pcsL (vertS ((qx,qy,qz),ql)) (0:Int) (sumT q2) (List.drop (Int.toNat (0:Int)) q2))).snd.snd.snd.fst,(runF sl ((px,py,pz),pl) (cm,cw,(cl,ch),cb) below (lo,hi,tl,th) aft bef (pcsL (vertS ((qx,qy,qz),ql)) (0:Int) (sumT q2) (List.drop (Int.toNat (0:Int)) q2))).snd.snd.snd.snd,()))) (.leaf (Exit.ret,Lay.st L_fo2_1 noU ((),(),(),(),(),false,()))))):=by kernel_rfl
def inv_fo2:Unit × Unit × Unit × Unit × Unit × Unit × Unit × Unit × Unit × Unit × Unit × Unit × List Tb × Int × Int × Int × List V × Int × Int × Int × Int × Int × Unit × Unit × Unit × Unit × Int × Int × Int × Int × Unit × Unit × Int × List Hg × List R2 × Int × Int × Int × List V × List Tb × Unit → Prop:=fun (_,_,_,_,_,_,_,_,_,_,_,_,sl,px,py,pz,pl,cm,cw,cl,ch,cb,_,_,_,_,lo,hi,tl,th,_,_,below,aft,bef,qx,qy,qz,ql,q2,_) => EnvOk sl ((px,py,pz),pl) (cm,cw,(cl,ch),cb) ∧ cm = 2 ∧ OkX lo hi ∧ below = -1 ∧ aft = [] ∧ bef = [] ∧ qx = px ∧ qy = py ∧ qz = pz ∧ ql = pl ∧ q2 = sl
def O_fo2:Unit × Unit × Unit × Unit × Unit × Unit × Unit × Unit × Unit × Unit × Unit × Unit × List Tb × Int × Int × Int × List V × Int × Int × Int × Int × Int × Unit × Unit × Unit × Unit × Int × Int × Int × Int × Unit × Unit × Int × List Hg × List R2 × Int × Int × Int × List V × List Tb × Unit → Tree (Exit × St):=fun (_,_,_,_,_,_,_,_,_,_,_,_,sl,px,py,pz,pl,cm,cw,cl,ch,cb,_,_,_,_,lo,hi,tl,th,_,_,below,aft,bef,qx,qy,qz,ql,q2,_) => .cond (runF sl ((px,py,pz),pl) (cm,cw,(cl,ch),cb) below (lo,hi,tl,th) aft bef (pcsS sl ((px,py,pz),pl))).1 (.leaf (.normal,L_fo2_0.st noU ((),(),(),(),(),(),(),(),(runF sl ((px,py,pz),pl) (cm,cw,(cl,ch),cb) below (lo,hi,tl,th) aft bef (pcsS sl ((px,py,pz),pl))).2.2.2.1,(runF sl ((px,py,pz),pl) (cm,cw,(cl,ch),cb) below (lo,hi,tl,th) aft bef (pcsS sl ((px,py,pz),pl))).2.2.2.2,()))) (.leaf (.ret,L_fo2_1.st noU ((),(),(),(),(),false,())))
def R_fo2:LRun:=runOf 205 L_fo2 (fun x => x) (inv_fo2) (O_fo2)
theorem H_fo2 (sl:List Tb) (px py pz:Int) (pl:List V) (cm cw cl ch cb:Int) (lo hi tl th:Int) (below:Int) (aft:List Hg) (bef:List R2) (qx qy qz:Int) (ql:List V) (q2:List Tb) (hinv:inv_fo2 ((),(),(),(),(),(),(),(),(),(),(),(),sl,px,py,pz,pl,cm,cw,cl,ch,cb,(),(),(),(),lo,hi,tl,th,(),(),below,aft,bef,qx,qy,qz,ql,q2,())) (Q:Exit × St → Prop) (hQ:(O_fo2 ((),(),(),(),(),(),(),(),(),(),(),(),sl,px,py,pz,pl,cm,cw,cl,ch,cb,(),(),(),(),lo,hi,tl,th,(),(),below,aft,bef,qx,qy,qz,ql,q2,())).holds Q):Hold Q (rangeTree (P:=P) [c_Bend.gc,c_wild.gc,c_root.gc,c_Wet.gc,c_down.gc,c_up.gc,c_add,c_Side.gc,c_bendD.gc,c_rubD.gc,c_Vert.gc,c_plength.gc] (lpOf [(0,R_fo2nl ((),(),(),(),(),(),(),(),(),(),(),(),sl,px,py,pz,pl,cm,cw,cl,ch,cb,(),(),(),(),lo,hi,tl,th,(),(),below,aft,bef,qx,qy,qz,ql,q2,()))]) [] 205 noU 990 (rgFn C_fo2) (rgPs C_fo2).toList (rgAssign C_fo2) (rgBody C_fo2) X_fo2 (L_fo2.st noU ((),(),(),(),(),(),(),(),(),(),(),(),sl,px,py,pz,pl,cm,cw,cl,ch,cb,(),(),(),(),lo,hi,tl,th,(),(),below,aft,bef,qx,qy,qz,ql,q2,()))):=by
    have e:=G_fo2 sl px py pz pl cm cw cl ch cb lo hi tl th below aft bef qx qy qz ql q2
    generalize rangeTree (P:=P) [c_Bend.gc,c_wild.gc,c_root.gc,c_Wet.gc,c_down.gc,c_up.gc,c_add,c_Side.gc,c_bendD.gc,c_rubD.gc,c_Vert.gc,c_plength.gc] (lpOf [(0,R_fo2nl ((),(),(),(),(),(),(),(),(),(),(),(),sl,px,py,pz,pl,cm,cw,cl,ch,cb,(),(),(),(),lo,hi,tl,th,(),(),below,aft,bef,qx,qy,qz,ql,q2,()))]) [] 205 noU 990 (rgFn C_fo2) (rgPs C_fo2).toList (rgAssign C_fo2) (rgBody C_fo2) X_fo2 (L_fo2.st noU ((),(),(),(),(),(),(),(),(),(),(),(),sl,px,py,pz,pl,cm,cw,cl,ch,cb,(),(),(),(),lo,hi,tl,th,(),(),below,aft,bef,qx,qy,qz,ql,q2,())) = t at e ⊢
    subst e
    constructor
    obtain ⟨henv,rfl,hX,rfl,rfl,rfl,rfl,rfl,rfl,rfl,rfl⟩:=hinv
    have hd:=fits_down henv.fits
    obtain ⟨f1,f2,f3⟩:=fitsS_ok henv.fits
    obtain ⟨_,g2,g3,g4⟩:=checkT_ok f1
    have hlen:=checkS_len f2
    have hpos:0 < ql.length:=List.length_pos_iff.2 (fits_legs henv.fits)
    have hkl:=knots_length (qx,qy,qz) ql
    have hs:=(sumT_rng q2 g3).1
    dsimp only at hd hlen hkl
    have hv:vertS ((qx,qy,qz),ql) = knots (qx,qy,qz) ql:=vertS_fits henv.fits
    rw [hv,W_id (n:=(ql.length:Int) - 1) (by omega) (by omega)]
    unfold O_fo2 at hQ
    dsimp only at hQ
    unfold pcsS at hQ
    rw [if_pos henv.fits] at hQ
    refine ⟨⟨g2,g3⟩,⟨henv,rfl,rfl,rfl,rfl,by decide,by omega,rfl,f3,g4,⟨by omega,by omega,fun hp => ?_⟩,⟨hX,by decide,by show (-1:Int) < ql.length; omega,fun h => absurd h (by decide)⟩,by show (0:Int) + sumT q2 ≤ 1048576; omega,by show (0:Int) + sumT q2 ≤ 1048576; omega⟩,?_⟩
    · have:=(legOf_ok hd hp f3).2.1
      omega
    · simp only [Int.toNat_zero,List.drop_zero]
      exact hQ
theorem J_fo2 (a:A_fo2):AllK P (Y_fo2 a) 65 none (U_fo2 a) (bodyOf Tryz.f98) [(0,R_fo2nl a)]:=⟨K_fo2nl a,trivial⟩
theorem K_fo2:LoopOk P [] 205 none noU C_fo2 (R_fo2):=by
  refine range_of hm (cx:=[c_Bend.gc,c_wild.gc,c_root.gc,c_Wet.gc,c_down.gc,c_up.gc,c_add,c_Side.gc,c_bendD.gc,c_rubD.gc,c_Vert.gc,c_plength.gc]) (xl:=X_fo2) (α:=Unit × Unit × Unit × Unit × Unit × Unit × Unit × Unit × Unit × Unit × Unit × Unit × List Tb × Int × Int × Int × List V × Int × Int × Int × Int × Int × Unit × Unit × Unit × Unit × Int × Int × Int × Int × Unit × Unit × Int × List Hg × List R2 × Int × Int × Int × List V × List Tb × Unit) (fun x => x) 990 (gf:=98) (fnI:=Tryz.f98) (fun a => [(0,R_fo2nl a)]) (fun _ => rfl) (by kernel_rfl) (by kernel_rfl) ?_ (by kernel_rfl) (fun a => ⟨encK [(52205,0),(52206,0)],by kernel_rfl⟩) (by kernel_rfl) ?_ ?_
  · intro e S L' h
    unfold X_fo2 at h
    split at h <;> first | (cases h; done) | (cases h; kernel_rfl) | (rcases bif_some h with h | h <;> cases h <;> kernel_rfl)
  · intro a; exact J_fo2 a
  · have tup:∀ Pr:Unit × Unit × Unit × Unit × Unit × Unit × Unit × Unit × Unit × Unit × Unit × Unit × List Tb × Int × Int × Int × List V × Int × Int × Int × Int × Int × Unit × Unit × Unit × Unit × Int × Int × Int × Int × Unit × Unit × Int × List Hg × List R2 × Int × Int × Int × List V × List Tb × Unit → Prop,(∀ (sl:List Tb) (px py pz:Int) (pl:List V) (cm cw cl ch cb:Int) (lo hi tl th:Int) (below:Int) (aft:List Hg) (bef:List R2) (qx qy qz:Int) (ql:List V) (q2:List Tb),Pr ((),(),(),(),(),(),(),(),(),(),(),(),sl,px,py,pz,pl,cm,cw,cl,ch,cb,(),(),(),(),lo,hi,tl,th,(),(),below,aft,bef,qx,qy,qz,ql,q2,())) → ∀ a,Pr a:=fun Pr h a => h (a.2.2.2.2.2.2.2.2.2.2.2.2.1) (a.2.2.2.2.2.2.2.2.2.2.2.2.2.1) (a.2.2.2.2.2.2.2.2.2.2.2.2.2.2.1) (a.2.2.2.2.2.2.2.2.2.2.2.2.2.2.2.1) (a.2.2.2.2.2.2.2.2.2.2.2.2.2.2.2.2.1) (a.2.2.2.2.2.2.2.2.2.2.2.2.2.2.2.2.2.1) (a.2.2.2.2.2.2.2.2.2.2.2.2.2.2.2.2.2.2.1) (a.2.2.2.2.2.2.2.2.2.2.2.2.2.2.2.2.2.2.2.1) (a.2.2.2.2.2.2.2.2.2.2.2.2.2.2.2.2.2.2.2.2.1) (a.2.2.2.2.2.2.2.2.2.2.2.2.2.2.2.2.2.2.2.2.2.1) (a.2.2.2.2.2.2.2.2.2.2.2.2.2.2.2.2.2.2.2.2.2.2.2.2.2.2.1) (a.2.2.2.2.2.2.2.2.2.2.2.2.2.2.2.2.2.2.2.2.2.2.2.2.2.2.2.1) (a.2.2.2.2.2.2.2.2.2.2.2.2.2.2.2.2.2.2.2.2.2.2.2.2.2.2.2.2.1) (a.2.2.2.2.2.2.2.2.2.2.2.2.2.2.2.2.2.2.2.2.2.2.2.2.2.2.2.2.2.1) (a.2.2.2.2.2.2.2.2.2.2.2.2.2.2.2.2.2.2.2.2.2.2.2.2.2.2.2.2.2.2.2.2.1) (a.2.2.2.2.2.2.2.2.2.2.2.2.2.2.2.2.2.2.2.2.2.2.2.2.2.2.2.2.2.2.2.2.2.1) (a.2.2.2.2.2.2.2.2.2.2.2.2.2.2.2.2.2.2.2.2.2.2.2.2.2.2.2.2.2.2.2.2.2.2.1) (a.2.2.2.2.2.2.2.2.2.2.2.2.2.2.2.2.2.2.2.2.2.2.2.2.2.2.2.2.2.2.2.2.2.2.2.1) (a.2.2.2.2.2.2.2.2.2.2.2.2.2.2.2.2.2.2.2.2.2.2.2.2.2.2.2.2.2.2.2.2.2.2.2.2.1) (a.2.2.2.2.2.2.2.2.2.2.2.2.2.2.2.2.2.2.2.2.2.2.2.2.2.2.2.2.2.2.2.2.2.2.2.2.2.1) (a.2.2.2.2.2.2.2.2.2.2.2.2.2.2.2.2.2.2.2.2.2.2.2.2.2.2.2.2.2.2.2.2.2.2.2.2.2.2.1) (a.2.2.2.2.2.2.2.2.2.2.2.2.2.2.2.2.2.2.2.2.2.2.2.2.2.2.2.2.2.2.2.2.2.2.2.2.2.2.2.1)
    refine tup _ ?_
    intro sl px py pz pl cm cw cl ch cb lo hi tl th below aft bef qx qy qz ql q2 hinv Q hQ
    exact H_fo2 sl px py pz pl cm cw cl ch cb lo hi tl th below aft bef qx qy qz ql q2 hinv Q hQ
set_option maxHeartbeats 2000000 in
theorem T_follow2 (sl :  List Tb) (px py pz :  Int) (pl :  List V) (cw cl ch cb :  Int):fnTree (P:=P) [c_add,c_rules.gc,c_pieces.gc] (lpOf [(0,R_fo2)]) Tryz.f67 (encL 0 [.agg tTs,.agg tPath,.agg tCs] (sl,((px,py,pz),pl),((2:Int),cw,(cl,ch),cb),())) =
  Tree.cond false (.need (inv_fo2 ((),(),(),(),(),(),(),(),(),(),(),(),sl,px,py,pz,pl,(2:Int),cw,cl,ch,cb,(),(),(),(),IntKind.i64.wrap (IntKind.i64.wrap ((0:Int) + IntKind.i64.wrap ((0:Int) - cb)) + IntKind.i64.wrap ((2:Int) * cb)),IntKind.i64.wrap (IntKind.i64.wrap ((0:Int) + IntKind.i64.wrap ((0:Int) - cb)) + IntKind.i64.wrap ((2:Int) * cb)),(0:Int),(0:Int),(),(),(-1:Int),[],[],px,py,pz,pl,sl,())) (.cond (runF sl ((px,py,pz),pl) ((2:Int),cw,(cl,ch),cb) (-1:Int) (IntKind.i64.wrap (IntKind.i64.wrap ((0:Int) + IntKind.i64.wrap ((0:Int) - cb)) + IntKind.i64.wrap ((2:Int) * cb)),IntKind.i64.wrap (IntKind.i64.wrap ((0:Int) + IntKind.i64.wrap ((0:Int) - cb)) + IntKind.i64.wrap ((2:Int) * cb)),(0:Int),(0:Int)) [] [] (pcsS sl ((px,py,pz),pl))).fst (.leaf (SV.tup [SV.sl (Ty.pair tI (Ty.pair tPart tPart)) (runF sl ((px,py,pz),pl) ((2:Int),cw,(cl,ch),cb) (-1:Int) (IntKind.i64.wrap (IntKind.i64.wrap ((0:Int) + IntKind.i64.wrap ((0:Int) - cb)) + IntKind.i64.wrap ((2:Int) * cb)),IntKind.i64.wrap (IntKind.i64.wrap ((0:Int) + IntKind.i64.wrap ((0:Int) - cb)) + IntKind.i64.wrap ((2:Int) * cb)),(0:Int),(0:Int)) [] [] (pcsS sl ((px,py,pz),pl))).snd.snd.snd.fst,SV.sl (Ty.pair tI tI) (runF sl ((px,py,pz),pl) ((2:Int),cw,(cl,ch),cb) (-1:Int) (IntKind.i64.wrap (IntKind.i64.wrap ((0:Int) + IntKind.i64.wrap ((0:Int) - cb)) + IntKind.i64.wrap ((2:Int) * cb)),IntKind.i64.wrap (IntKind.i64.wrap ((0:Int) + IntKind.i64.wrap ((0:Int) - cb)) + IntKind.i64.wrap ((2:Int) * cb)),(0:Int),(0:Int)) [] [] (pcsS sl ((px,py,pz),pl))).snd.snd.snd.snd,SV.bool true])) (.leaf (SV.tup [SV.nils,SV.nils,SV.bool false])))) (.need (inv_fo2 ((),(),(),(),(),(),(),(),(),(),(),(),sl,px,py,pz,pl,(2:Int),cw,cl,ch,cb,(),(),(),(),IntKind.i64.wrap ((0:Int) + IntKind.i64.wrap ((0:Int) - cb)),IntKind.i64.wrap ((0:Int) + IntKind.i64.wrap ((0:Int) - cb)),(0:Int),(0:Int),(),(),(-1:Int),[],[],px,py,pz,pl,sl,())) (.cond (runF sl ((px,py,pz),pl) ((2:Int),cw,(cl,ch),cb) (-1:Int) (IntKind.i64.wrap ((0:Int) + IntKind.i64.wrap ((0:Int) - cb)),IntKind.i64.wrap ((0:Int) + IntKind.i64.wrap ((0:Int) - cb)),(0:Int),(0:Int)) [] [] (pcsS sl ((px,py,pz),pl))).fst (.leaf (SV.tup [SV.sl (Ty.pair tI (Ty.pair tPart tPart)) (runF sl ((px,py,pz),pl) ((2:Int),cw,(cl,ch),cb) (-1:Int) (IntKind.i64.wrap ((0:Int) + IntKind.i64.wrap ((0:Int) - cb)),IntKind.i64.wrap ((0:Int) + IntKind.i64.wrap ((0:Int) - cb)),(0:Int),(0:Int)) [] [] (pcsS sl ((px,py,pz),pl))).snd.snd.snd.fst,SV.sl (Ty.pair tI tI) (runF sl ((px,py,pz),pl) ((2:Int),cw,(cl,ch),cb) (-1:Int) (IntKind.i64.wrap ((0:Int) + IntKind.i64.wrap ((0:Int) - cb)),IntKind.i64.wrap ((0:Int) + IntKind.i64.wrap ((0:Int) - cb)),(0:Int),(0:Int)) [] [] (pcsS sl ((px,py,pz),pl))).snd.snd.snd.snd,SV.bool true])) (.leaf (SV.tup [SV.nils,SV.nils,SV.bool false])))):=by kernel_rfl
set_option maxHeartbeats 2000000 in
def c_follow2:PC P:=PC.of (α:=List Tb × Pth × Cs × Unit) 67 [.agg tTs,.agg tPath,.agg tCs] (fun x => x) (fun x => x) (fun _ => rfl)
  (fun x => some (x.2.2.1.1 = 2 ∧ EnvOk x.1 x.2.1 x.2.2.1))
  (fun x => .tup [.sl tHg (folS x.1 x.2.1 x.2.2.1).2.1,.sl tPart (folS x.1 x.2.1 x.2.2.1).2.2,.bool (folS x.1 x.2.1 x.2.2.1).1]) (by kernel_rfl) (by
    rintro ⟨sl,⟨⟨px,py,pz⟩,pl⟩,⟨cm,cw,⟨cl,ch⟩,cb⟩,⟨⟩⟩ hp
    obtain ⟨hlit,hp⟩ : cm = 2 ∧ _:=hp
    subst hlit
    refine fn_le hm (by kernel_rfl) (by kernel_rfl) (T_follow2 sl px py pz pl cw cl ch cb) ⟨K_fo2,trivial⟩ (by kernel_rfl) ?_
    have henv:EnvOk sl ((px,py,pz),pl) (2,cw,(cl,ch),cb):=hp
    have hbit:0 ≤ cb ∧ cb ≤ 1099511627776:=henv.case.bit
    have hst:startS (2,cw,(cl,ch),cb) = (-cb,-cb,0,0):=if_neg (show ¬ (2:Int) = 1 by decide)
    show Tree.holds (fun s => LeS s (SV.tup [.sl tHg (folS sl ((px,py,pz),pl) (2,cw,(cl,ch),cb)).2.1,.sl tPart (folS sl ((px,py,pz),pl) (2,cw,(cl,ch),cb)).2.2,.bool (folS sl ((px,py,pz),pl) (2,cw,(cl,ch),cb)).1])) _
    rw [W_id (n:=0 - cb) (by omega) (by omega),W_id (n:=0 + (0 - cb)) (by omega) (by omega),W_id (n:=2 * cb) (by omega) (by omega),W_id (n:=0 + (0 - cb) + 2 * cb) (by omega) (by omega),show 0 + (0 - cb) = -cb by omega]
    unfold folS
    rw [hst]
    have fin:∀ R:Bool × Int × H4 × List Hg × List R2,(R.1 = true → LeS (SV.tup [.sl tHg R.2.2.2.1,.sl tPart R.2.2.2.2,.bool true]) (SV.tup [.sl tHg (if R.1 = true then (true,R.2.2.2.1,R.2.2.2.2) else (false,[],[])).2.1,.sl tPart (if R.1 = true then (true,R.2.2.2.1,R.2.2.2.2) else (false,[],[])).2.2,.bool (if R.1 = true then (true,R.2.2.2.1,R.2.2.2.2) else (false,[],[])).1])) ∧
        (R.1 = false → LeS (SV.tup [.nils,.nils,.bool false]) (SV.tup [.sl tHg (if R.1 = true then (true,R.2.2.2.1,R.2.2.2.2) else (false,[],[])).2.1,.sl tPart (if R.1 = true then (true,R.2.2.2.1,R.2.2.2.2) else (false,[],[])).2.2,.bool (if R.1 = true then (true,R.2.2.2.1,R.2.2.2.2) else (false,[],[])).1])):=by
      intro R
      refine ⟨fun h => ?_,fun h => ?_⟩
      · rw [if_pos h]; exact ⟨rfl,rfl,rfl,trivial⟩
      · rw [if_neg (by rw [h]; exact Bool.false_ne_true)]; exact ⟨rfl,rfl,rfl,trivial⟩
    refine ⟨fun h => (by cases h),fun _ => ?_⟩
    exact ⟨⟨henv,rfl,⟨by omega,by omega,by omega⟩,rfl,rfl,rfl,rfl,rfl,rfl,rfl,rfl⟩,(fin _).1,(fin _).2⟩)
def L_fo3:Lay:={ slots:=[(3,.ptr 4205 0),(4,.ptr 5205 0),(5,.ptr 6205 0),(6,.ptr 7205 0),(7,.ptr 8205 0),(8,.ptr 9205 0),(9,.ptr 10205 0),(10,.ptr 11205 0),(11,.ptr 12205 0),(12,.ptr 13205 0),(13,.ptr 14205 0),(51,.clo 98 [(52205,0),(52206,0)])],boxes:=[(4205,[.val tTs]),(5205,[.val tI,.val tI,.val tI,.val tVs]),(6205,[.val tI,.val tI,.val tI,.val tI,.val tI]),(7205,[.any]),(8205,[.any]),(9205,[.any]),(10205,[.ptr 23205 0]),(23205,[.val tI,.val tI,.val tI,.val tI]),(11205,[.fn 113,.fn 114]),(12205,[.val tI]),(13205,[.row 67 tHg]),(14205,[.row 31 tPart]),(52205,[.val tI,.val tI,.val tI,.val tVs]),(52206,[.val tTs])] }
def L_fo3_0:Lay:={ slots:=[(6,.ptr 7205 0),(7,.ptr 8205 0),(8,.ptr 9205 0),(12,.ptr 13205 0),(13,.ptr 14205 0)],boxes:=[(7205,[.any]),(8205,[.any]),(9205,[.any]),(13205,[.row 67 tHg]),(14205,[.row 31 tPart])] }
def L_fo3_1:Lay:={ slots:=[(6,.ptr 7205 0),(7,.ptr 8205 0),(8,.ptr 9205 0)],boxes:=[(7205,[.nils]),(8205,[.nils]),(9205,[.val .bool])] }
def X_fo3:Exit → St → Option Lay
  | .normal,_ => some L_fo3_0
  | .ret,_ => some L_fo3_1
  | _,_ => none
abbrev C_fo3:Code:=loopC (bodyOf Tryz.f67) 0
abbrev A_fo3:Type:=Unit × Unit × Unit × Unit × Unit × Unit × Unit × Unit × Unit × Unit × Unit × Unit × List Tb × Int × Int × Int × List V × Int × Int × Int × Int × Int × Unit × Unit × Unit × Unit × Int × Int × Int × Int × Unit × Unit × Int × List Hg × List R2 × Int × Int × Int × List V × List Tb × Unit
abbrev Y_fo3 (a:A_fo3):List YH:=[⟨990,roundRun (P:=P) [c_Bend.gc,c_wild.gc,c_root.gc,c_Wet.gc,c_down.gc,c_up.gc,c_add,c_Side.gc,c_bendS.gc,c_rubZ.gc,c_Vert.gc,c_plength.gc] [] 205 990 (L_fo3.st noU a).tmps (rgPs C_fo3).toList (rgAssign C_fo3) (rgBody C_fo3)⟩]
abbrev U_fo3 (a:A_fo3):Nat → Bool:=apU (L_fo3.st noU a).used [990]
def L_fo3n4:Lay:={ slots:=[(0,.yld 990),(4,.val tKs),(5,.val tI),(6,.val tI),(7,.val tI),(9,.val tI),(21,.val tTs),(22,.val tI),(23,.val tI)],boxes:=[(4205,[.val tTs]),(5205,[.val tI,.val tI,.val tI,.val tVs]),(6205,[.val tI,.val tI,.val tI,.val tI,.val tI]),(7205,[.any]),(8205,[.any]),(9205,[.any]),(10205,[.ptr 23205 0]),(23205,[.val tI,.val tI,.val tI,.val tI]),(11205,[.fn 113,.fn 114]),(12205,[.val tI]),(13205,[.row 67 tHg]),(14205,[.row 31 tPart])],recs:=[(990,.ready)] }
def L_fo3n4_0:Lay:={ slots:=[(0,.yld 990),(4,.val tKs),(5,.val tI),(6,.val tI),(7,.val tI),(9,.val tI),(21,.val tTs),(22,.val tI),(23,.val tI)],boxes:=[(4205,[.val tTs]),(5205,[.val tI,.val tI,.val tI,.val tVs]),(6205,[.val tI,.val tI,.val tI,.val tI,.val tI]),(7205,[.any]),(8205,[.any]),(9205,[.any]),(10205,[.ptr 23205 0]),(23205,[.val tI,.val tI,.val tI,.val tI]),(11205,[.fn 113,.fn 114]),(12205,[.val tI]),(13205,[.row 67 tHg]),(14205,[.row 31 tPart])],recs:=[(990,.ready)] }
def X_fo3n4:Exit → St → Option Lay
  | .exit 4,_ => some L_fo3n4_0
  | _,_ => none
abbrev C_fo3n4:Code:=loopC (inner (loopC (inner (loopC (bodyOf Tryz.f98) 0)) 2)) 4
theorem B_fo3n4 (o:A_fo3) (ks:List K2) (g to i top:Int) (l:List Tb) (n j:Int) (sl:List Tb) (px py pz:Int) (pl:List V) (cm cw cl ch cb:Int) (lo hi tl th:Int) (below:Int) (aft:List Hg) (bef:List R2):loopBodyA (P:=P) [] (lpOf []) (Y_fo3 o) 65 (U_fo3 o) (inner C_fo3n4) L_fo3n4 X_fo3n4 (α:=Unit × List K2 × Int × Int × Int × Int × List Tb × Int × Int × List Tb × Int × Int × Int × List V × Int × Int × Int × Int × Int × Unit × Unit × Unit × Unit × Int × Int × Int × Int × Unit × Unit × Int × List Hg × List R2 × Unit) (fun x => x) (fun x => x) ((),ks,g,to,i,top,l,n,j,sl,px,py,pz,pl,cm,cw,cl,ch,cb,(),(),(),(),lo,hi,tl,th,(),(),below,aft,bef,()) =
  Tree.need ((0:Int) ≤ g ∧ g < (ks.length:Int)) (.cond (decide ((List.getD ks (Int.toNat g) (0,0)).fst ≥ to)) (.leaf (Sum.inl ((),ks,IntKind.i64.wrap (g - (1:Int)),to,i,top,l,n,j,sl,px,py,pz,pl,cm,cw,cl,ch,cb,(),(),(),(),lo,hi,tl,th,(),(),below,aft,bef,()))) (.leaf (Sum.inr (Exit.exit (4:Nat),Lay.st L_fo3n4_0 (U_fo3 o) ((),ks,g,to,i,top,l,n,j,sl,px,py,pz,pl,cm,cw,cl,ch,cb,(),(),(),(),lo,hi,tl,th,(),(),below,aft,bef,()))))):=by kernel_rfl
def inv_fo3n4 (o:A_fo3):Unit × List K2 × Int × Int × Int × Int × List Tb × Int × Int × List Tb × Int × Int × Int × List V × Int × Int × Int × Int × Int × Unit × Unit × Unit × Unit × Int × Int × Int × Int × Unit × Unit × Int × List Hg × List R2 × Unit → Prop:=fun (_,ks,g,to,i,top,l,n,j,_) => ∃ L,Down ks L ∧ 0 < to ∧ to ≤ L ∧ LegAt ks to g ∧ (ks.length:Int) ≤ 1000
def O_fo3n4 (o:A_fo3):Unit × List K2 × Int × Int × Int × Int × List Tb × Int × Int × List Tb × Int × Int × Int × List V × Int × Int × Int × Int × Int × Unit × Unit × Unit × Unit × Int × Int × Int × Int × Unit × Unit × Int × List Hg × List R2 × Unit → Tree (Exit × St):=fun (_,ks,g,to,i,top,l,n,j,sl,px,py,pz,pl,cm,cw,cl,ch,cb,_,_,_,_,lo,hi,tl,th,_,_,below,aft,bef,_) => .leaf (.exit 4,L_fo3n4_0.st (U_fo3 o) ((),ks,legOf ks to,to,i,top,l,n,j,sl,px,py,pz,pl,cm,cw,cl,ch,cb,(),(),(),(),lo,hi,tl,th,(),(),below,aft,bef,()))
def R_fo3n4 (o:A_fo3):LRun:=runOf 65 L_fo3n4 (fun x => x) (inv_fo3n4 o) (O_fo3n4 o)
theorem K_fo3n4 (o:A_fo3):LoopOk P (Y_fo3 o) 65 none (U_fo3 o) C_fo3n4 (R_fo3n4 o):=by
  refine loop_of hm (cx:=[]) [] (xl:=X_fo3n4) (α:=Unit × List K2 × Int × Int × Int × Int × List Tb × Int × Int × List Tb × Int × Int × Int × List V × Int × Int × Int × Int × Int × Unit × Unit × Unit × Unit × Int × Int × Int × Int × Unit × Unit × Int × List Hg × List R2 × Unit) (fun x => x) (fun (_,ks,g,_) => g.toNat) (fun _ => rfl) (by kernel_rfl) (by kernel_rfl) ?_ (by kernel_rfl) trivial ?_
  · intro e S L' h
    unfold X_fo3n4 at h
    split at h <;> first | (cases h; done) | (cases h; kernel_rfl) | (rcases bif_some h with h | h <;> cases h <;> kernel_rfl)
  · rintro ⟨⟨⟩,ks,g,to,i,top,l,n,j,sl,px,py,pz,pl,cm,cw,cl,ch,cb,⟨⟩,⟨⟩,⟨⟩,⟨⟩,lo,hi,tl,th,⟨⟩,⟨⟩,below,aft,bef,⟨⟩⟩ hinv Q hQ
    refine hold_of_eq (B_fo3n4 o ks g to i top l n j sl px py pz pl cm cw cl ch cb lo hi tl th below aft bef) ?_
    obtain ⟨L,hd,h0,h1,⟨h2,h3,h4⟩,h5⟩:=hinv
    have hg:=h4 h0
    obtain ⟨l1,l2,l3,l4⟩:=legOf_ok hd h0 h1
    unfold O_fo3n4 at hQ
    dsimp only at hQ
    refine ⟨⟨h2,by omega⟩,fun c1 => ?_,fun c1 => ?_⟩
    · have c1:knotA ks g ≥ to:=of_decide_eq_true c1
      have hlt:legOf ks to < g:=by
        rcases Int.lt_or_le (legOf ks to) g with e | e
        · exact e
        · have:legOf ks to = g:=by omega
          rw [this] at l3; omega
      rw [W_id (n:=g - 1) (by omega) (by omega)]
      exact ⟨⟨⟨L,hd,h0,h1,⟨by omega,by omega,fun _ => by omega⟩,h5⟩,by show (g - 1).toNat < g.toNat; omega⟩,hQ⟩
    · have c1:¬ knotA ks g ≥ to:=of_decide_eq_false c1
      have e:legOf ks to = g:=by
        rcases Int.lt_or_le (legOf ks to) g with e | e
        · have:=hd.asc (legOf ks to + 1) g (by omega) (by omega) (by omega)
          omega
        · omega
      rw [e] at hQ
      exact hQ
def L_fo3n2:Lay:={ slots:=[(0,.yld 990),(4,.val tKs),(5,.val tI),(6,.val tI),(7,.val tI),(9,.val tI),(21,.val tTs),(22,.val tI),(23,.val tI)],boxes:=[(4205,[.val tTs]),(5205,[.val tI,.val tI,.val tI,.val tVs]),(6205,[.val tI,.val tI,.val tI,.val tI,.val tI]),(7205,[.any]),(8205,[.any]),(9205,[.any]),(10205,[.ptr 23205 0]),(23205,[.val tI,.val tI,.val tI,.val tI]),(11205,[.fn 113,.fn 114]),(12205,[.val tI]),(13205,[.row 67 tHg]),(14205,[.row 31 tPart])],recs:=[(990,.ready)] }
def L_fo3n2_0:Lay:={ slots:=[(0,.yld 990),(4,.val tKs),(5,.val tI),(6,.val tI),(21,.val tTs),(22,.val tI),(23,.val tI)],boxes:=[(4205,[.val tTs]),(5205,[.val tI,.val tI,.val tI,.val tVs]),(6205,[.val tI,.val tI,.val tI,.val tI,.val tI]),(7205,[.any]),(8205,[.any]),(9205,[.any]),(10205,[.ptr 23205 0]),(23205,[.val tI,.val tI,.val tI,.val tI]),(11205,[.fn 113,.fn 114]),(12205,[.val tI]),(13205,[.row 67 tHg]),(14205,[.row 31 tPart])],recs:=[(990,.ready)] }
def L_fo3n2_1:Lay:={ slots:=[],boxes:=[(7205,[.nils]),(8205,[.nils]),(9205,[.val .bool])],recs:=[(990,.done .ret)] }
def X_fo3n2:Exit → St → Option Lay
  | .exit 2,_ => some L_fo3n2_0
  | .exit 0,_ => some L_fo3n2_1
  | _,_ => none
abbrev C_fo3n2:Code:=loopC (inner (loopC (bodyOf Tryz.f98) 0)) 2
theorem B_fo3n2 (o:A_fo3) (ks:List K2) (g to i top:Int) (l:List Tb) (n j:Int) (sl:List Tb) (px py pz:Int) (pl:List V) (cm cw cl ch cb:Int) (lo hi tl th:Int) (below:Int) (aft:List Hg) (bef:List R2) (x4_:Int × Int × Int × Int × Int × Int × Int × Int × Int) (hx4_:x4_ = (List.getD sl (Int.toNat i) (0,0,0,0,0,0,0,0,0))) (x5_:Int × Int × Int) (hx5_:x5_ = (List.getD pl (Int.toNat (legOf ks to)) (0,0,0))) (x1_:Int × Bool) (hx1_:x1_ = (rootS (IntKind.i64.wrap (IntKind.i64.wrap (IntKind.i64.wrap (x5_.fst * x5_.fst) + IntKind.i64.wrap (x5_.snd.fst * x5_.snd.fst)) + IntKind.i64.wrap (x5_.snd.snd * x5_.snd.snd))))) (x6_:Int × Int) (hx6_:x6_ = (List.getD ks (Int.toNat (legOf ks to)) (0,0))) (x7_:Int × Int × Int × Int) (hx7_:x7_ = (bentS (3:Int) (cl,ch) (bendV x5_ (List.getD pl (Int.toNat below) (0,0,0))) x4_.snd.snd.snd.snd.fst (lo,hi,tl,th))) (x8_:Int) (hx8_:x8_ = (IntKind.i64.wrap (IntKind.i64.wrap (wetS x4_ cw * IntKind.i64.wrap (to - maxI top x6_.fst)) * (sideS x5_).snd))) (x9_:Int) (hx9_:x9_ = (IntKind.i64.wrap (IntKind.i64.wrap (wetS x4_ cw * IntKind.i64.wrap (to - maxI top x6_.fst)) * x5_.snd.snd))) (x2_:Int × Int × Int × Int) (hx2_:x2_ = (rubS (3:Int) (IntKind.i64.wrap (IntKind.i64.wrap (IntKind.i64.wrap (wetS x4_ cw * IntKind.i64.wrap (to - maxI top x6_.fst)) * (sideS x5_).fst) / x1_.fst * cl) / (1000:Int)) (upS (IntKind.i64.wrap (upS x8_ x1_.fst * ch)) (1000:Int)) x4_.snd.snd.snd.snd.fst (IntKind.i64.wrap (lo + IntKind.i64.wrap (IntKind.i64.wrap (wetS x4_ cw * IntKind.i64.wrap (to - maxI top x6_.fst)) * x5_.snd.snd) / x1_.fst),IntKind.i64.wrap (hi + upS x9_ x1_.fst),tl,th))) (x3_:Int × Int × Int × Int) (hx3_:x3_ = (rubS (3:Int) (IntKind.i64.wrap (IntKind.i64.wrap (IntKind.i64.wrap (wetS x4_ cw * IntKind.i64.wrap (to - maxI top x6_.fst)) * (sideS x5_).fst) / x1_.fst * cl) / (1000:Int)) (upS (IntKind.i64.wrap (upS x8_ x1_.fst * ch)) (1000:Int)) x4_.snd.snd.snd.snd.fst (IntKind.i64.wrap (x7_.fst + IntKind.i64.wrap (IntKind.i64.wrap (wetS x4_ cw * IntKind.i64.wrap (to - maxI top x6_.fst)) * x5_.snd.snd) / x1_.fst),IntKind.i64.wrap (x7_.snd.fst + upS x9_ x1_.fst),x7_.snd.snd))):loopBodyA (P:=P) [] (lpOf [(4,R_fo3n4 o)]) (Y_fo3 o) 65 (U_fo3 o) (inner C_fo3n2) L_fo3n2 X_fo3n2 (α:=Unit × List K2 × Int × Int × Int × Int × List Tb × Int × Int × List Tb × Int × Int × Int × List V × Int × Int × Int × Int × Int × Unit × Unit × Unit × Unit × Int × Int × Int × Int × Unit × Unit × Int × List Hg × List R2 × Unit) (fun x => x) (fun x => x) ((),ks,g,to,i,top,l,n,j,sl,px,py,pz,pl,cm,cw,cl,ch,cb,(),(),(),(),lo,hi,tl,th,(),(),below,aft,bef,()) =
  Tree.cond (decide (to > top)) (.need (inv_fo3n4 o ((),ks,g,to,i,top,l,n,j,sl,px,py,pz,pl,cm,cw,cl,ch,cb,(),(),(),(),lo,hi,tl,th,(),(),below,aft,bef,())) (.need ((0:Int) ≤ legOf ks to ∧ legOf ks to < (ks.length:Int)) (.need ((0:Int) ≤ i ∧ i < (sl.length:Int)) (.need ((0:Int) ≤ legOf ks to ∧ legOf ks to < (pl.length:Int)) (.cond (decide (below ≥ (0:Int))) (.cond (below != legOf ks to) (.need ((0:Int) ≤ below ∧ below < (pl.length:Int)) (.need (OkX lo hi ∧ OkMu (cl,ch) ∧ OkB (bendV x5_ (List.getD pl (Int.toNat below) (0,0,0))) ∧ (2:Int) ≤ x4_.snd.snd.snd.snd.fst ∧ x4_.snd.snd.snd.snd.fst ≤ (90:Int)) (.cond (wildS x7_) (.leaf (Sum.inr (Exit.exit (0:Nat),Lay.st L_fo3n2_1 (U_fo3 o) ((),(),false,())))) (.need ((List.length bef + List.length [(x7_.fst,x7_.snd.fst)]) * (16:Nat) ≤ (140737488355328:Nat)) (.need ((0:Int) < x1_.fst ∧ (-9223372036854775808:Int) < IntKind.i64.wrap (IntKind.i64.wrap (wetS x4_ cw * IntKind.i64.wrap (to - maxI top x6_.fst)) * x5_.snd.snd) ∧ IntKind.i64.wrap (IntKind.i64.wrap (wetS x4_ cw * IntKind.i64.wrap (to - maxI top x6_.fst)) * x5_.snd.snd) ≤ (9223372036854775807:Int)) (.need ((0:Int) < x1_.fst ∧ (-9223372036854775808:Int) < IntKind.i64.wrap (IntKind.i64.wrap (wetS x4_ cw * IntKind.i64.wrap (to - maxI top x6_.fst)) * x5_.snd.snd) ∧ IntKind.i64.wrap (IntKind.i64.wrap (wetS x4_ cw * IntKind.i64.wrap (to - maxI top x6_.fst)) * x5_.snd.snd) < (9223372036854775807:Int)) (.cond (wildS (IntKind.i64.wrap (x7_.fst + IntKind.i64.wrap (IntKind.i64.wrap (wetS x4_ cw * IntKind.i64.wrap (to - maxI top x6_.fst)) * x5_.snd.snd) / x1_.fst),IntKind.i64.wrap (x7_.snd.fst + upS x9_ x1_.fst),x7_.snd.snd)) (.leaf (Sum.inr (Exit.exit (0:Nat),Lay.st L_fo3n2_1 (U_fo3 o) ((),(),false,())))) (.need ((0:Int) < x1_.fst ∧ (-9223372036854775808:Int) < IntKind.i64.wrap (IntKind.i64.wrap (wetS x4_ cw * IntKind.i64.wrap (to - maxI top x6_.fst)) * (sideS x5_).fst) ∧ IntKind.i64.wrap (IntKind.i64.wrap (wetS x4_ cw * IntKind.i64.wrap (to - maxI top x6_.fst)) * (sideS x5_).fst) ≤ (9223372036854775807:Int)) (.need ((0:Int) < (1000:Int) ∧ (-9223372036854775808:Int) < IntKind.i64.wrap (IntKind.i64.wrap (IntKind.i64.wrap (wetS x4_ cw * IntKind.i64.wrap (to - maxI top x6_.fst)) * (sideS x5_).fst) / x1_.fst * cl) ∧ IntKind.i64.wrap (IntKind.i64.wrap (IntKind.i64.wrap (wetS x4_ cw * IntKind.i64.wrap (to - maxI top x6_.fst)) * (sideS x5_).fst) / x1_.fst * cl) ≤ (9223372036854775807:Int)) (.need ((0:Int) < x1_.fst ∧ (-9223372036854775808:Int) < IntKind.i64.wrap (IntKind.i64.wrap (wetS x4_ cw * IntKind.i64.wrap (to - maxI top x6_.fst)) * (sideS x5_).snd) ∧ IntKind.i64.wrap (IntKind.i64.wrap (wetS x4_ cw * IntKind.i64.wrap (to - maxI top x6_.fst)) * (sideS x5_).snd) < (9223372036854775807:Int)) (.need ((0:Int) < (1000:Int) ∧ (-9223372036854775808:Int) < IntKind.i64.wrap (upS x8_ x1_.fst * ch) ∧ IntKind.i64.wrap (upS x8_ x1_.fst * ch) < (9223372036854775807:Int)) (.need (OkX (IntKind.i64.wrap (x7_.fst + IntKind.i64.wrap (IntKind.i64.wrap (wetS x4_ cw * IntKind.i64.wrap (to - maxI top x6_.fst)) * x5_.snd.snd) / x1_.fst)) (IntKind.i64.wrap (x7_.snd.fst + upS x9_ x1_.fst)) ∧ OkF (IntKind.i64.wrap (IntKind.i64.wrap (IntKind.i64.wrap (wetS x4_ cw * IntKind.i64.wrap (to - maxI top x6_.fst)) * (sideS x5_).fst) / x1_.fst * cl) / (1000:Int)) (upS (IntKind.i64.wrap (upS x8_ x1_.fst * ch)) (1000:Int)) ∧ (2:Int) ≤ x4_.snd.snd.snd.snd.fst ∧ x4_.snd.snd.snd.snd.fst ≤ (90:Int)) (.cond (wildS x3_) (.leaf (Sum.inr (Exit.exit (0:Nat),Lay.st L_fo3n2_1 (U_fo3 o) ((),(),false,())))) (.need ((List.length aft + List.length [(maxI top x6_.fst,(x3_.fst,x3_.snd.fst),x3_.snd.snd)]) * (40:Nat) ≤ (140737488355328:Nat)) (.leaf (Sum.inl ((),ks,legOf ks to,maxI top x6_.fst,i,top,l,n,j,sl,px,py,pz,pl,cm,cw,cl,ch,cb,(),(),(),(),x3_.fst,x3_.snd.fst,x3_.snd.snd.fst,x3_.snd.snd.snd,(),(),legOf ks to,aft ++ [(maxI top x6_.fst,(x3_.fst,x3_.snd.fst),x3_.snd.snd)],bef ++ [(x7_.fst,x7_.snd.fst)],()))))))))))))))))) (.need ((List.length bef + List.length [(lo,hi)]) * (16:Nat) ≤ (140737488355328:Nat)) (.need ((0:Int) < x1_.fst ∧ (-9223372036854775808:Int) < IntKind.i64.wrap (IntKind.i64.wrap (wetS x4_ cw * IntKind.i64.wrap (to - maxI top x6_.fst)) * x5_.snd.snd) ∧ IntKind.i64.wrap (IntKind.i64.wrap (wetS x4_ cw * IntKind.i64.wrap (to - maxI top x6_.fst)) * x5_.snd.snd) ≤ (9223372036854775807:Int)) (.need ((0:Int) < x1_.fst ∧ (-9223372036854775808:Int) < IntKind.i64.wrap (IntKind.i64.wrap (wetS x4_ cw * IntKind.i64.wrap (to - maxI top x6_.fst)) * x5_.snd.snd) ∧ IntKind.i64.wrap (IntKind.i64.wrap (wetS x4_ cw * IntKind.i64.wrap (to - maxI top x6_.fst)) * x5_.snd.snd) < (9223372036854775807:Int)) (.cond (wildS (IntKind.i64.wrap (lo + IntKind.i64.wrap (IntKind.i64.wrap (wetS x4_ cw * IntKind.i64.wrap (to - maxI top x6_.fst)) * x5_.snd.snd) / x1_.fst),IntKind.i64.wrap (hi + upS x9_ x1_.fst),tl,th)) (.leaf (Sum.inr (Exit.exit (0:Nat),Lay.st L_fo3n2_1 (U_fo3 o) ((),(),false,())))) (.need ((0:Int) < x1_.fst ∧ (-9223372036854775808:Int) < IntKind.i64.wrap (IntKind.i64.wrap (wetS x4_ cw * IntKind.i64.wrap (to - maxI top x6_.fst)) * (sideS x5_).fst) ∧ IntKind.i64.wrap (IntKind.i64.wrap (wetS x4_ cw * IntKind.i64.wrap (to - maxI top x6_.fst)) * (sideS x5_).fst) ≤ (9223372036854775807:Int)) (.need ((0:Int) < (1000:Int) ∧ (-9223372036854775808:Int) < IntKind.i64.wrap (IntKind.i64.wrap (IntKind.i64.wrap (wetS x4_ cw * IntKind.i64.wrap (to - maxI top x6_.fst)) * (sideS x5_).fst) / x1_.fst * cl) ∧ IntKind.i64.wrap (IntKind.i64.wrap (IntKind.i64.wrap (wetS x4_ cw * IntKind.i64.wrap (to - maxI top x6_.fst)) * (sideS x5_).fst) / x1_.fst * cl) ≤ (9223372036854775807:Int)) (.need ((0:Int) < x1_.fst ∧ (-9223372036854775808:Int) < IntKind.i64.wrap (IntKind.i64.wrap (wetS x4_ cw * IntKind.i64.wrap (to - maxI top x6_.fst)) * (sideS x5_).snd) ∧ IntKind.i64.wrap (IntKind.i64.wrap (wetS x4_ cw * IntKind.i64.wrap (to - maxI top x6_.fst)) * (sideS x5_).snd) < (9223372036854775807:Int)) (.need ((0:Int) < (1000:Int) ∧ (-9223372036854775808:Int) < IntKind.i64.wrap (upS x8_ x1_.fst * ch) ∧ IntKind.i64.wrap (upS x8_ x1_.fst * ch) < (9223372036854775807:Int)) (.need (OkX (IntKind.i64.wrap (lo + IntKind.i64.wrap (IntKind.i64.wrap (wetS x4_ cw * IntKind.i64.wrap (to - maxI top x6_.fst)) * x5_.snd.snd) / x1_.fst)) (IntKind.i64.wrap (hi + upS x9_ x1_.fst)) ∧ OkF (IntKind.i64.wrap (IntKind.i64.wrap (IntKind.i64.wrap (wetS x4_ cw * IntKind.i64.wrap (to - maxI top x6_.fst)) * (sideS x5_).fst) / x1_.fst * cl) / (1000:Int)) (upS (IntKind.i64.wrap (upS x8_ x1_.fst * ch)) (1000:Int)) ∧ (2:Int) ≤ x4_.snd.snd.snd.snd.fst ∧ x4_.snd.snd.snd.snd.fst ≤ (90:Int)) (.cond (wildS x2_) (.leaf (Sum.inr (Exit.exit (0:Nat),Lay.st L_fo3n2_1 (U_fo3 o) ((),(),false,())))) (.need ((List.length aft + List.length [(maxI top x6_.fst,(x2_.fst,x2_.snd.fst),x2_.snd.snd)]) * (40:Nat) ≤ (140737488355328:Nat)) (.leaf (Sum.inl ((),ks,legOf ks to,maxI top x6_.fst,i,top,l,n,j,sl,px,py,pz,pl,cm,cw,cl,ch,cb,(),(),(),(),x2_.fst,x2_.snd.fst,x2_.snd.snd.fst,x2_.snd.snd.snd,(),(),legOf ks to,aft ++ [(maxI top x6_.fst,(x2_.fst,x2_.snd.fst),x2_.snd.snd)],bef ++ [(lo,hi)],()))))))))))))))) (.need ((List.length bef + List.length [(lo,hi)]) * (16:Nat) ≤ (140737488355328:Nat)) (.need ((0:Int) < x1_.fst ∧ (-9223372036854775808:Int) < IntKind.i64.wrap (IntKind.i64.wrap (wetS x4_ cw * IntKind.i64.wrap (to - maxI top x6_.fst)) * x5_.snd.snd) ∧ IntKind.i64.wrap (IntKind.i64.wrap (wetS x4_ cw * IntKind.i64.wrap (to - maxI top x6_.fst)) * x5_.snd.snd) ≤ (9223372036854775807:Int)) (.need ((0:Int) < x1_.fst ∧ (-9223372036854775808:Int) < IntKind.i64.wrap (IntKind.i64.wrap (wetS x4_ cw * IntKind.i64.wrap (to - maxI top x6_.fst)) * x5_.snd.snd) ∧ IntKind.i64.wrap (IntKind.i64.wrap (wetS x4_ cw * IntKind.i64.wrap (to - maxI top x6_.fst)) * x5_.snd.snd) < (9223372036854775807:Int)) (.cond (wildS (IntKind.i64.wrap (lo + IntKind.i64.wrap (IntKind.i64.wrap (wetS x4_ cw * IntKind.i64.wrap (to - maxI top x6_.fst)) * x5_.snd.snd) / x1_.fst),IntKind.i64.wrap (hi + upS x9_ x1_.fst),tl,th)) (.leaf (Sum.inr (Exit.exit (0:Nat),Lay.st L_fo3n2_1 (U_fo3 o) ((),(),false,())))) (.need ((0:Int) < x1_.fst ∧ (-9223372036854775808:Int) < IntKind.i64.wrap (IntKind.i64.wrap (wetS x4_ cw * IntKind.i64.wrap (to - maxI top x6_.fst)) * (sideS x5_).fst) ∧ IntKind.i64.wrap (IntKind.i64.wrap (wetS x4_ cw * IntKind.i64.wrap (to - maxI top x6_.fst)) * (sideS x5_).fst) ≤ (9223372036854775807:Int)) (.need ((0:Int) < (1000:Int) ∧ (-9223372036854775808:Int) < IntKind.i64.wrap (IntKind.i64.wrap (IntKind.i64.wrap (wetS x4_ cw * IntKind.i64.wrap (to - maxI top x6_.fst)) * (sideS x5_).fst) / x1_.fst * cl) ∧ IntKind.i64.wrap (IntKind.i64.wrap (IntKind.i64.wrap (wetS x4_ cw * IntKind.i64.wrap (to - maxI top x6_.fst)) * (sideS x5_).fst) / x1_.fst * cl) ≤ (9223372036854775807:Int)) (.need ((0:Int) < x1_.fst ∧ (-9223372036854775808:Int) < IntKind.i64.wrap (IntKind.i64.wrap (wetS x4_ cw * IntKind.i64.wrap (to - maxI top x6_.fst)) * (sideS x5_).snd) ∧ IntKind.i64.wrap (IntKind.i64.wrap (wetS x4_ cw * IntKind.i64.wrap (to - maxI top x6_.fst)) * (sideS x5_).snd) < (9223372036854775807:Int)) (.need ((0:Int) < (1000:Int) ∧ (-9223372036854775808:Int) < IntKind.i64.wrap (upS x8_ x1_.fst * ch) ∧ IntKind.i64.wrap (upS x8_ x1_.fst * ch) < (9223372036854775807:Int)) (.need (OkX (IntKind.i64.wrap (lo + IntKind.i64.wrap (IntKind.i64.wrap (wetS x4_ cw * IntKind.i64.wrap (to - maxI top x6_.fst)) * x5_.snd.snd) / x1_.fst)) (IntKind.i64.wrap (hi + upS x9_ x1_.fst)) ∧ OkF (IntKind.i64.wrap (IntKind.i64.wrap (IntKind.i64.wrap (wetS x4_ cw * IntKind.i64.wrap (to - maxI top x6_.fst)) * (sideS x5_).fst) / x1_.fst * cl) / (1000:Int)) (upS (IntKind.i64.wrap (upS x8_ x1_.fst * ch)) (1000:Int)) ∧ (2:Int) ≤ x4_.snd.snd.snd.snd.fst ∧ x4_.snd.snd.snd.snd.fst ≤ (90:Int)) (.cond (wildS x2_) (.leaf (Sum.inr (Exit.exit (0:Nat),Lay.st L_fo3n2_1 (U_fo3 o) ((),(),false,())))) (.need ((List.length aft + List.length [(maxI top x6_.fst,(x2_.fst,x2_.snd.fst),x2_.snd.snd)]) * (40:Nat) ≤ (140737488355328:Nat)) (.leaf (Sum.inl ((),ks,legOf ks to,maxI top x6_.fst,i,top,l,n,j,sl,px,py,pz,pl,cm,cw,cl,ch,cb,(),(),(),(),x2_.fst,x2_.snd.fst,x2_.snd.snd.fst,x2_.snd.snd.snd,(),(),legOf ks to,aft ++ [(maxI top x6_.fst,(x2_.fst,x2_.snd.fst),x2_.snd.snd)],bef ++ [(lo,hi)],()))))))))))))))))))) (.leaf (Sum.inr (Exit.exit (2:Nat),Lay.st L_fo3n2_0 (U_fo3 o) ((),ks,g,to,l,n,j,sl,px,py,pz,pl,cm,cw,cl,ch,cb,(),(),(),(),lo,hi,tl,th,(),(),below,aft,bef,())))):=by
  subst hx3_; subst hx2_; subst hx9_; subst hx8_; subst hx7_; subst hx6_; subst hx1_; subst hx5_; subst hx4_; kernel_rfl
def inv_fo3n2 (o:A_fo3):Unit × List K2 × Int × Int × Int × Int × List Tb × Int × Int × List Tb × Int × Int × Int × List V × Int × Int × Int × Int × Int × Unit × Unit × Unit × Unit × Int × Int × Int × Int × Unit × Unit × Int × List Hg × List R2 × Unit → Prop:=fun (_,ks,g,to,i,top,l,n,j,sl,px,py,pz,pl,cm,cw,cl,ch,cb,_,_,_,_,lo,hi,tl,th,_,_,below,aft,bef,_) => EnvOk sl ((px,py,pz),pl) (cm,cw,(cl,ch),cb) ∧ ks = knots (px,py,pz) pl ∧ cm = 3 ∧ 0 ≤ i ∧ i < sl.length ∧ 0 ≤ top ∧ top ≤ to ∧ to ≤ lenS ((px,py,pz),pl) ∧ to ≤ 1048576 ∧ LegAt ks to g ∧ StOk ((px,py,pz),pl) ks to below (lo,hi,tl,th) ∧ (aft.length:Int) + to ≤ 1048576 ∧ (bef.length:Int) + to ≤ 1048576
def O_fo3n2 (o:A_fo3):Unit × List K2 × Int × Int × Int × Int × List Tb × Int × Int × List Tb × Int × Int × Int × List V × Int × Int × Int × Int × Int × Unit × Unit × Unit × Unit × Int × Int × Int × Int × Unit × Unit × Int × List Hg × List R2 × Unit → Tree (Exit × St):=fun (_,ks,g,to,i,top,l,n,j,sl,px,py,pz,pl,cm,cw,cl,ch,cb,_,_,_,_,lo,hi,tl,th,_,_,below,aft,bef,_) => .cond (runF sl ((px,py,pz),pl) (cm,cw,(cl,ch),cb) below (lo,hi,tl,th) aft bef (tubeS ks i top to)).1 (.leaf (.exit 2,L_fo3n2_0.st (U_fo3 o) ((),ks,endLeg g (tubeS ks i top to),top,l,n,j,sl,px,py,pz,pl,cm,cw,cl,ch,cb,(),(),(),(),(runF sl ((px,py,pz),pl) (cm,cw,(cl,ch),cb) below (lo,hi,tl,th) aft bef (tubeS ks i top to)).2.2.1.1,(runF sl ((px,py,pz),pl) (cm,cw,(cl,ch),cb) below (lo,hi,tl,th) aft bef (tubeS ks i top to)).2.2.1.2.1,(runF sl ((px,py,pz),pl) (cm,cw,(cl,ch),cb) below (lo,hi,tl,th) aft bef (tubeS ks i top to)).2.2.1.2.2.1,(runF sl ((px,py,pz),pl) (cm,cw,(cl,ch),cb) below (lo,hi,tl,th) aft bef (tubeS ks i top to)).2.2.1.2.2.2,(),(),(runF sl ((px,py,pz),pl) (cm,cw,(cl,ch),cb) below (lo,hi,tl,th) aft bef (tubeS ks i top to)).2.1,(runF sl ((px,py,pz),pl) (cm,cw,(cl,ch),cb) below (lo,hi,tl,th) aft bef (tubeS ks i top to)).2.2.2.1,(runF sl ((px,py,pz),pl) (cm,cw,(cl,ch),cb) below (lo,hi,tl,th) aft bef (tubeS ks i top to)).2.2.2.2,()))) (.leaf (.exit 0,L_fo3n2_1.st (U_fo3 o) ((),(),false,())))
def R_fo3n2 (o:A_fo3):LRun:=runOf 65 L_fo3n2 (fun x => x) (inv_fo3n2 o) (O_fo3n2 o)
set_option maxHeartbeats 4000000 in
theorem K_fo3n2 (o:A_fo3):LoopOk P (Y_fo3 o) 65 none (U_fo3 o) C_fo3n2 (R_fo3n2 o):=by
  refine loop_of hm (cx:=[]) [(4,R_fo3n4 o)] (xl:=X_fo3n2) (α:=Unit × List K2 × Int × Int × Int × Int × List Tb × Int × Int × List Tb × Int × Int × Int × List V × Int × Int × Int × Int × Int × Unit × Unit × Unit × Unit × Int × Int × Int × Int × Unit × Unit × Int × List Hg × List R2 × Unit) (fun x => x) (fun (_,ks,g,to,i,top,_) => (to - top).toNat) (fun _ => rfl) (by kernel_rfl) (by kernel_rfl) ?_ (by kernel_rfl) ⟨K_fo3n4 o,trivial⟩ ?_
  · intro e S L' h
    unfold X_fo3n2 at h
    split at h <;> first | (cases h; done) | (cases h; kernel_rfl) | (rcases bif_some h with h | h <;> cases h <;> kernel_rfl)
  · rintro ⟨⟨⟩,ks,g,to,i,top,l,n,j,sl,px,py,pz,pl,cm,cw,cl,ch,cb,⟨⟩,⟨⟩,⟨⟩,⟨⟩,lo,hi,tl,th,⟨⟩,⟨⟩,below,aft,bef,⟨⟩⟩ hinv Q hQ
    refine hold_of_eq (B_fo3n2 o ks g to i top l n j sl px py pz pl cm cw cl ch cb lo hi tl th below aft bef _ rfl _ rfl _ rfl _ rfl _ rfl _ rfl _ rfl _ rfl _ rfl) ?_
    obtain ⟨henv,hks,rfl,i0,i1,h0,h1,h2,h3,hg,hst,ha,hb⟩:=hinv
    have hd:Down ks (lenS ((px,py,pz),pl)):=by rw [hks]; exact fits_down henv.fits
    have hkl:(ks.length:Int) = pl.length + 1:=by
      rw [hks]
      have:=knots_length (px,py,pz) pl
      omega
    have hp20:pl.length ≤ 20:=checkS_len (fitsS_ok henv.fits).2.1
    unfold O_fo3n2 at hQ
    dsimp only at hQ
    have hk:∀ e:Int,(ks.getD e.toNat (0,0)).1 = knotA ks e:=fun _ => rfl
    rw [hk]
    refine ⟨fun c1 => ?_,fun c1 => ?_⟩
    · have c1:to > top:=of_decide_eq_true c1
      have t0:0 < to:=by omega
      obtain ⟨l1,l2,l3,l4⟩:=legOf_ok hd t0 h2
      have hm:top ≤ maxI top (knotA ks (legOf ks to)) ∧ maxI top (knotA ks (legOf ks to)) < to ∧ knotA ks (legOf ks to) ≤ maxI top (knotA ks (legOf ks to)):=by rw [maxI_eq]; omega
      rw [tubeS_step hd i h0 c1 h2,endLeg_cons,runF_cons] at hQ
      generalize maxI top (knotA ks (legOf ks to)) = fr at *
      have hpc:=henv.pc' hks i0 i1 t0 h2 h3 (show 0 ≤ fr by omega) hm.2.1
      obtain ⟨hB,ho1⟩:=step1_ok' henv hks hst t0 h2 i fr
      have hnext:=step_next' henv hks hst t0 h2 h3 i0 i1 (show 0 ≤ fr by omega) hm.2.1 hm.2.2
      obtain ⟨hF,hw1,hw2,hd1,hu1⟩:=hpc.rub henv.case.mu
      have hwp:=hpc.wpos
      have hwm:=hpc.wmax
      have hleg:=hpc.leg
      have hfair:=hpc.tube
      have hmu:=henv.case.mu
      have eW:pcW sl (3,cw,(cl,ch),cb) (i,legOf ks to,fr,to) = wetS (sl.getD i.toNat (0,0,0,0,0,0,0,0,0)) cw * (to - fr):=rfl
      have eV:pcV ((px,py,pz),pl) (i,legOf ks to,fr,to) = pl.getD (legOf ks to).toNat (0,0,0):=rfl
      have eT:pcT sl (i,legOf ks to,fr,to) = sl.getD i.toNat (0,0,0,0,0,0,0,0,0):=rfl
      dsimp only at hQ hB hnext
      have hs1:step1 sl ((px,py,pz),pl) (3,cw,(cl,ch),cb) below (i,legOf ks to,fr,to) (lo,hi,tl,th) = if below ≥ 0 ∧ below ≠ legOf ks to then bentS 3 (cl,ch) (bendV (pl.getD (legOf ks to).toNat (0,0,0)) (pl.getD below.toNat (0,0,0))) (sl.getD i.toNat (0,0,0,0,0,0,0,0,0)).2.2.2.2.1 (lo,hi,tl,th) else (lo,hi,tl,th):=rfl
      have hs2:∀ x,step2 sl ((px,py,pz),pl) (3,cw,(cl,ch),cb) (i,legOf ks to,fr,to) x = (x.1 + pcW sl (3,cw,(cl,ch),cb) (i,legOf ks to,fr,to) * (pl.getD (legOf ks to).toNat (0,0,0)).2.2 / (wholeS (pl.getD (legOf ks to).toNat (0,0,0))).1,x.2.1 + upS (pcW sl (3,cw,(cl,ch),cb) (i,legOf ks to,fr,to) * (pl.getD (legOf ks to).toNat (0,0,0)).2.2) (wholeS (pl.getD (legOf ks to).toNat (0,0,0))).1,x.2.2):=fun _ => rfl
      have hs3:∀ x,step3 sl ((px,py,pz),pl) (3,cw,(cl,ch),cb) (i,legOf ks to,fr,to) x = rubS 3 (pcW sl (3,cw,(cl,ch),cb) (i,legOf ks to,fr,to) * (sideS (pl.getD (legOf ks to).toNat (0,0,0))).1 / (wholeS (pl.getD (legOf ks to).toNat (0,0,0))).1 * cl / 1000) (upS (upS (pcW sl (3,cw,(cl,ch),cb) (i,legOf ks to,fr,to) * (sideS (pl.getD (legOf ks to).toNat (0,0,0))).2) (wholeS (pl.getD (legOf ks to).toNat (0,0,0))).1 * ch) 1000) (sl.getD i.toNat (0,0,0,0,0,0,0,0,0)).2.2.2.2.1 x:=fun _ => rfl
      have hF' : OkF (pcW sl (3,cw,(cl,ch),cb) (i,legOf ks to,fr,to) * (sideS (pl.getD (legOf ks to).toNat (0,0,0))).1 / (wholeS (pl.getD (legOf ks to).toNat (0,0,0))).1 * cl / 1000) (upS (upS (pcW sl (3,cw,(cl,ch),cb) (i,legOf ks to,fr,to) * (sideS (pl.getD (legOf ks to).toNat (0,0,0))).2) (wholeS (pl.getD (legOf ks to).toNat (0,0,0))).1 * ch) 1000):=hF
      rw [eV] at hw1 hw2 hd1 hu1 hleg
      rw [eT] at hfair
      have eR:=root_leg hleg
      have hz:=leg_z hleg
      have hn:=hleg.2
      unfold vdot at eR
      rw [W_id (n:=to - fr) (by omega) (by omega)]
      rw [← eW]
      generalize pcW sl (3,cw,(cl,ch),cb) (i,legOf ks to,fr,to) = w at *
      generalize pl.getD (legOf ks to).toNat (0,0,0) = v at *
      generalize sl.getD i.toNat (0,0,0,0,0,0,0,0,0) = t at *
      rw [eR]
      have hwz:=mulB (a:=w) (b:=v.2.2) (A:=4194304000000) (B:=131072) (by omega) hz
      have hwzd:=div_rng (x:=w * v.2.2) (b:=(wholeS v).1) (M:=549755813888000000) (by omega) (by decide) (by omega) (by omega)
      have hwzu : -549755813888000000 ≤ upS (w * v.2.2) (wholeS v).1 ∧ upS (w * v.2.2) (wholeS v).1 ≤ 549755813888000000:=by
        have:=div_rng (x:=-(w * v.2.2)) (b:=(wholeS v).1) (M:=549755813888000000) (by omega) (by decide) (by omega) (by omega)
        unfold upS; omega
      obtain ⟨hm1,hm2,hm3⟩:=hmu
      dsimp only at hm1 hm2 hm3
      have hcl:=mul_rng (a:=w * (sideS v).1 / (wholeS v).1) (b:=cl) (A:=8388608000000) (B:=600) hd1.1 hd1.2 hm1 (by omega)
      have hch:=mul_rng (a:=upS (w * (sideS v).2) (wholeS v).1) (b:=ch) (A:=8388608000000) (B:=600) hu1.1 hu1.2 (by omega) hm3
      rw [W_id (n:=w) (by omega) (by omega),W_id (n:=w * v.2.2) (by omega) (by omega),W_id (n:=w * (sideS v).1) (by omega) (by omega),W_id (n:=w * (sideS v).1 / (wholeS v).1 * cl) (by omega) (by omega),W_id (n:=w * (sideS v).2) (by omega) (by omega),W_id (n:=upS (w * (sideS v).2) (wholeS v).1 * ch) (by omega) (by omega)]
      generalize w * (sideS v).1 / (wholeS v).1 * cl / 1000 = fa at *
      generalize upS (upS (w * (sideS v).2) (wholeS v).1 * ch) 1000 = fb at *
      refine ⟨⟨_,hd,t0,h2,hg,by omega⟩,⟨l1,by omega⟩,⟨i0,i1⟩,⟨l1,by omega⟩,?_⟩
      obtain ⟨hx1,hx2,hx3⟩:=hst.x
      dsimp only at hx1 hx2 hx3
      have calm0:=calm hst.x
      refine ⟨fun c2 => ?_,fun c2 => ?_⟩
      · have c2:below ≥ 0:=of_decide_eq_true c2
        refine ⟨fun c3 => ?_,fun c3 => ?_⟩
        · have c3:below ≠ legOf ks to:=by simpa using c3
          have hBv:=hB c2 c3
          rw [if_pos ⟨c2,c3⟩] at hs1
          rw [hs1] at hQ hnext ho1
          refine ⟨⟨c2,hst.hi⟩,⟨⟨hx1,hx2,hx3⟩,⟨hm1,hm2,hm3⟩,hBv,hfair.out.1,hfair.out.2⟩,fun c4 => ?_,fun c4 => ?_⟩
          · rw [if_pos c4] at hQ
            exact hQ.2 rfl
          · have w1:¬ wildS (bentS 3 (cl,ch) (bendV v (pl.getD below.toNat (0,0,0))) t.2.2.2.2.1 (lo,hi,tl,th)) = true:=by rw [c4]; exact Bool.false_ne_true
            simp only [hs2,hs3] at hQ hnext
            clear hs1 hs2 hs3 hBv hB hF c4
            generalize bentS 3 (cl,ch) (bendV v (pl.getD below.toNat (0,0,0))) t.2.2.2.2.1 (lo,hi,tl,th) = X at *
            obtain ⟨p1,p2,p3,p4⟩:=X
            obtain ⟨hy1,hy2,hy3⟩:=tame ho1 w1
            dsimp only at hQ hnext hy1 hy2 hy3 ⊢
            rw [W_id (n:=p1 + w * v.2.2 / (wholeS v).1) (by omega) (by omega),W_id (n:=p2 + upS (w * v.2.2) (wholeS v).1) (by omega) (by omega)]
            have o2:p1 + w * v.2.2 / (wholeS v).1 ≤ p2 + upS (w * v.2.2) (wholeS v).1:=by
              have:=floor_ceil (w * v.2.2) (wholeS v).1 (by omega)
              omega
            generalize p1 + w * v.2.2 / (wholeS v).1 = B1 at *
            generalize p2 + upS (w * v.2.2) (wholeS v).1 = B2 at *
            refine ⟨by simp only [List.length_cons,List.length_nil]; omega,⟨by omega,by omega,by omega⟩,⟨by omega,by omega,by omega⟩,fun c5 => ?_,fun c5 => ?_⟩
            · rw [if_neg w1,if_pos c5] at hQ
              exact hQ.2 rfl
            · have c5' : ¬ wildS (B1,B2,p3,p4) = true:=by rw [c5]; exact Bool.false_ne_true
              have hX2:OkX B1 B2:=tame (x:=(B1,B2,p3,p4)) o2 c5'
              refine ⟨⟨by omega,by omega,by omega⟩,⟨by decide,by omega,by omega⟩,⟨by omega,by omega,by omega⟩,⟨by decide,by omega,by omega⟩,⟨hX2,hF',hfair.out.1,hfair.out.2⟩,fun c6 => ?_,fun c6 => ?_⟩
              · rw [if_neg w1,if_neg c5',if_pos c6] at hQ
                exact hQ.2 rfl
              · have c6' : ¬ wildS (rubS 3 fa fb t.2.2.2.2.1 (B1,B2,p3,p4)) = true:=by rw [c6]; exact Bool.false_ne_true
                have hst':=hnext c6'
                rw [if_neg w1,if_neg c5',if_neg c6'] at hQ
                generalize rubS 3 fa fb t.2.2.2.2.1 (B1,B2,p3,p4) = Y at *
                obtain ⟨y1,y2,y3,y4⟩:=Y
                exact ⟨by simp only [List.length_cons,List.length_nil]; omega,⟨⟨henv,hks,rfl,i0,i1,h0,hm.1,by omega,by omega,⟨l1,l2,fun hp => legOf_mono hd hp (by omega) h2⟩,hst',by simp only [List.length_append,List.length_cons,List.length_nil]; omega,by simp only [List.length_append,List.length_cons,List.length_nil]; omega⟩,by show (fr - top).toNat < (to - top).toNat; omega⟩,hQ⟩
        · have c3:below = legOf ks to:=by simpa using c3
          have w1:=calm0
          rw [if_neg (by omega)] at hs1
          rw [hs1] at hQ hnext
          simp only [hs2,hs3] at hQ hnext
          clear hs1 hs2 hs3 hB hF
          try dsimp only at hQ hnext
          rw [W_id (n:=lo + w * v.2.2 / (wholeS v).1) (by omega) (by omega),W_id (n:=hi + upS (w * v.2.2) (wholeS v).1) (by omega) (by omega)]
          have o2:lo + w * v.2.2 / (wholeS v).1 ≤ hi + upS (w * v.2.2) (wholeS v).1:=by
            have:=floor_ceil (w * v.2.2) (wholeS v).1 (by omega)
            omega
          generalize lo + w * v.2.2 / (wholeS v).1 = B1 at *
          generalize hi + upS (w * v.2.2) (wholeS v).1 = B2 at *
          refine ⟨by simp only [List.length_cons,List.length_nil]; omega,⟨by omega,by omega,by omega⟩,⟨by omega,by omega,by omega⟩,fun c5 => ?_,fun c5 => ?_⟩
          · rw [if_neg w1,if_pos c5] at hQ
            exact hQ.2 rfl
          · have c5' : ¬ wildS (B1,B2,tl,th) = true:=by rw [c5]; exact Bool.false_ne_true
            have hX2:OkX B1 B2:=tame (x:=(B1,B2,tl,th)) o2 c5'
            refine ⟨⟨by omega,by omega,by omega⟩,⟨by decide,by omega,by omega⟩,⟨by omega,by omega,by omega⟩,⟨by decide,by omega,by omega⟩,⟨hX2,hF',hfair.out.1,hfair.out.2⟩,fun c6 => ?_,fun c6 => ?_⟩
            · rw [if_neg w1,if_neg c5',if_pos c6] at hQ
              exact hQ.2 rfl
            · have c6' : ¬ wildS (rubS 3 fa fb t.2.2.2.2.1 (B1,B2,tl,th)) = true:=by rw [c6]; exact Bool.false_ne_true
              have hst':=hnext c6'
              rw [if_neg w1,if_neg c5',if_neg c6'] at hQ
              generalize rubS 3 fa fb t.2.2.2.2.1 (B1,B2,tl,th) = Y at *
              obtain ⟨y1,y2,y3,y4⟩:=Y
              exact ⟨by simp only [List.length_cons,List.length_nil]; omega,⟨⟨henv,hks,rfl,i0,i1,h0,hm.1,by omega,by omega,⟨l1,l2,fun hp => legOf_mono hd hp (by omega) h2⟩,hst',by simp only [List.length_append,List.length_cons,List.length_nil]; omega,by simp only [List.length_append,List.length_cons,List.length_nil]; omega⟩,by show (fr - top).toNat < (to - top).toNat; omega⟩,hQ⟩
      · have c2:¬ below ≥ 0:=of_decide_eq_false c2
        have w1:=calm0
        rw [if_neg (by omega)] at hs1
        rw [hs1] at hQ hnext
        simp only [hs2,hs3] at hQ hnext
        clear hs1 hs2 hs3 hB hF
        try dsimp only at hQ hnext
        rw [W_id (n:=lo + w * v.2.2 / (wholeS v).1) (by omega) (by omega),W_id (n:=hi + upS (w * v.2.2) (wholeS v).1) (by omega) (by omega)]
        have o2:lo + w * v.2.2 / (wholeS v).1 ≤ hi + upS (w * v.2.2) (wholeS v).1:=by
          have:=floor_ceil (w * v.2.2) (wholeS v).1 (by omega)
          omega
        generalize lo + w * v.2.2 / (wholeS v).1 = B1 at *
        generalize hi + upS (w * v.2.2) (wholeS v).1 = B2 at *
        refine ⟨by simp only [List.length_cons,List.length_nil]; omega,⟨by omega,by omega,by omega⟩,⟨by omega,by omega,by omega⟩,fun c5 => ?_,fun c5 => ?_⟩
        · rw [if_neg w1,if_pos c5] at hQ
          exact hQ.2 rfl
        · have c5' : ¬ wildS (B1,B2,tl,th) = true:=by rw [c5]; exact Bool.false_ne_true
          have hX2:OkX B1 B2:=tame (x:=(B1,B2,tl,th)) o2 c5'
          refine ⟨⟨by omega,by omega,by omega⟩,⟨by decide,by omega,by omega⟩,⟨by omega,by omega,by omega⟩,⟨by decide,by omega,by omega⟩,⟨hX2,hF',hfair.out.1,hfair.out.2⟩,fun c6 => ?_,fun c6 => ?_⟩
          · rw [if_neg w1,if_neg c5',if_pos c6] at hQ
            exact hQ.2 rfl
          · have c6' : ¬ wildS (rubS 3 fa fb t.2.2.2.2.1 (B1,B2,tl,th)) = true:=by rw [c6]; exact Bool.false_ne_true
            have hst':=hnext c6'
            rw [if_neg w1,if_neg c5',if_neg c6'] at hQ
            generalize rubS 3 fa fb t.2.2.2.2.1 (B1,B2,tl,th) = Y at *
            obtain ⟨y1,y2,y3,y4⟩:=Y
            exact ⟨by simp only [List.length_cons,List.length_nil]; omega,⟨⟨henv,hks,rfl,i0,i1,h0,hm.1,by omega,by omega,⟨l1,l2,fun hp => legOf_mono hd hp (by omega) h2⟩,hst',by simp only [List.length_append,List.length_cons,List.length_nil]; omega,by simp only [List.length_append,List.length_cons,List.length_nil]; omega⟩,by show (fr - top).toNat < (to - top).toNat; omega⟩,hQ⟩
    · have c1:¬ to > top:=of_decide_eq_false c1
      have e:to = top:=by omega
      subst e
      rw [tubeS_nil _ _ _ (Int.le_refl _),endLeg_nil,runF_nil] at hQ
      exact hQ.1 rfl
def L_fo3nl:Lay:={ slots:=[(0,.yld 990),(4,.val tKs),(5,.val tI),(6,.val tI),(21,.val tTs),(22,.val tI),(23,.val tI)],boxes:=[(4205,[.val tTs]),(5205,[.val tI,.val tI,.val tI,.val tVs]),(6205,[.val tI,.val tI,.val tI,.val tI,.val tI]),(7205,[.any]),(8205,[.any]),(9205,[.any]),(10205,[.ptr 23205 0]),(23205,[.val tI,.val tI,.val tI,.val tI]),(11205,[.fn 113,.fn 114]),(12205,[.val tI]),(13205,[.row 67 tHg]),(14205,[.row 31 tPart])],recs:=[(990,.ready)] }
def L_fo3nl_0:Lay:={ slots:=[],boxes:=[(7205,[.any]),(8205,[.any]),(9205,[.any]),(13205,[.row 67 tHg]),(14205,[.row 31 tPart])],recs:=[(990,.ready)] }
def L_fo3nl_1:Lay:={ slots:=[],boxes:=[(7205,[.nils]),(8205,[.nils]),(9205,[.val .bool])],recs:=[(990,.done .ret)] }
def X_fo3nl:Exit → St → Option Lay
  | .exit 0,S => bif recReady 990 S then some L_fo3nl_0 else some L_fo3nl_1
  | _,_ => none
abbrev C_fo3nl:Code:=loopC (bodyOf Tryz.f98) 0
theorem B_fo3nl (o:A_fo3) (ks:List K2) (g to:Int) (l:List Tb) (n j:Int) (sl:List Tb) (px py pz:Int) (pl:List V) (cm cw cl ch cb:Int) (lo hi tl th:Int) (below:Int) (aft:List Hg) (bef:List R2):loopBodyA (P:=P) [] (lpOf [(2,R_fo3n2 o)]) (Y_fo3 o) 65 (U_fo3 o) (inner C_fo3nl) L_fo3nl X_fo3nl (α:=Unit × List K2 × Int × Int × List Tb × Int × Int × List Tb × Int × Int × Int × List V × Int × Int × Int × Int × Int × Unit × Unit × Unit × Unit × Int × Int × Int × Int × Unit × Unit × Int × List Hg × List R2 × Unit) (fun x => x) (fun x => x) ((),ks,g,to,l,n,j,sl,px,py,pz,pl,cm,cw,cl,ch,cb,(),(),(),(),lo,hi,tl,th,(),(),below,aft,bef,()) =
  Tree.cond (decide (j < n)) (.need ((0:Int) ≤ j ∧ j < (l.length:Int)) (.need (inv_fo3n2 o ((),ks,g,to,j,IntKind.i64.wrap (to - IntKind.i64.wrap ((List.getD l (Int.toNat j) (0,0,0,0,0,0,0,0,0)).fst * (List.getD l (Int.toNat j) (0,0,0,0,0,0,0,0,0)).snd.fst)),l,n,j,sl,px,py,pz,pl,cm,cw,cl,ch,cb,(),(),(),(),lo,hi,tl,th,(),(),below,aft,bef,())) (.cond (runF sl ((px,py,pz),pl) (cm,cw,(cl,ch),cb) below (lo,hi,tl,th) aft bef (tubeS ks j (IntKind.i64.wrap (to - IntKind.i64.wrap ((List.getD l (Int.toNat j) (0,0,0,0,0,0,0,0,0)).fst * (List.getD l (Int.toNat j) (0,0,0,0,0,0,0,0,0)).snd.fst))) to)).fst (.leaf (Sum.inl ((),ks,endLeg g (tubeS ks j (IntKind.i64.wrap (to - IntKind.i64.wrap ((List.getD l (Int.toNat j) (0,0,0,0,0,0,0,0,0)).fst * (List.getD l (Int.toNat j) (0,0,0,0,0,0,0,0,0)).snd.fst))) to),IntKind.i64.wrap (to - IntKind.i64.wrap ((List.getD l (Int.toNat j) (0,0,0,0,0,0,0,0,0)).fst * (List.getD l (Int.toNat j) (0,0,0,0,0,0,0,0,0)).snd.fst)),l,n,IntKind.i64.wrap (j + (1:Int)),sl,px,py,pz,pl,cm,cw,cl,ch,cb,(),(),(),(),(runF sl ((px,py,pz),pl) (cm,cw,(cl,ch),cb) below (lo,hi,tl,th) aft bef (tubeS ks j (IntKind.i64.wrap (to - IntKind.i64.wrap ((List.getD l (Int.toNat j) (0,0,0,0,0,0,0,0,0)).fst * (List.getD l (Int.toNat j) (0,0,0,0,0,0,0,0,0)).snd.fst))) to)).snd.snd.fst.fst,(runF sl ((px,py,pz),pl) (cm,cw,(cl,ch),cb) below (lo,hi,tl,th) aft bef (tubeS ks j (IntKind.i64.wrap (to - IntKind.i64.wrap ((List.getD l (Int.toNat j) (0,0,0,0,0,0,0,0,0)).fst * (List.getD l (Int.toNat j) (0,0,0,0,0,0,0,0,0)).snd.fst))) to)).snd.snd.fst.snd.fst,(runF sl ((px,py,pz),pl) (cm,cw,(cl,ch),cb) below (lo,hi,tl,th) aft bef (tubeS ks j (IntKind.i64.wrap (to - IntKind.i64.wrap ((List.getD l (Int.toNat j) (0,0,0,0,0,0,0,0,0)).fst * (List.getD l (Int.toNat j) (0,0,0,0,0,0,0,0,0)).snd.fst))) to)).snd.snd.fst.snd.snd.fst,(runF sl ((px,py,pz),pl) (cm,cw,(cl,ch),cb) below (lo,hi,tl,th) aft bef (tubeS ks j (IntKind.i64.wrap (to - IntKind.i64.wrap ((List.getD l (Int.toNat j) (0,0,0,0,0,0,0,0,0)).fst * (List.getD l (Int.toNat j) (0,0,0,0,0,0,0,0,0)).snd.fst))) to)).snd.snd.fst.snd.snd.snd,(),(),(runF sl ((px,py,pz),pl) (cm,cw,(cl,ch),cb) below (lo,hi,tl,th) aft bef (tubeS ks j (IntKind.i64.wrap (to - IntKind.i64.wrap ((List.getD l (Int.toNat j) (0,0,0,0,0,0,0,0,0)).fst * (List.getD l (Int.toNat j) (0,0,0,0,0,0,0,0,0)).snd.fst))) to)).snd.fst,(runF sl ((px,py,pz),pl) (cm,cw,(cl,ch),cb) below (lo,hi,tl,th) aft bef (tubeS ks j (IntKind.i64.wrap (to - IntKind.i64.wrap ((List.getD l (Int.toNat j) (0,0,0,0,0,0,0,0,0)).fst * (List.getD l (Int.toNat j) (0,0,0,0,0,0,0,0,0)).snd.fst))) to)).snd.snd.snd.fst,(runF sl ((px,py,pz),pl) (cm,cw,(cl,ch),cb) below (lo,hi,tl,th) aft bef (tubeS ks j (IntKind.i64.wrap (to - IntKind.i64.wrap ((List.getD l (Int.toNat j) (0,0,0,0,0,0,0,0,0)).fst * (List.getD l (Int.toNat j) (0,0,0,0,0,0,0,0,0)).snd.fst))) to)).snd.snd.snd.snd,()))) (.leaf (Sum.inr (Exit.exit (0:Nat),Lay.st L_fo3nl_1 (U_fo3 o) ((),(),false,()))))))) (.leaf (Sum.inr (Exit.exit (0:Nat),Lay.st L_fo3nl_0 (U_fo3 o) ((),(),(),aft,bef,())))):=by kernel_rfl
def inv_fo3nl (o:A_fo3):Unit × List K2 × Int × Int × List Tb × Int × Int × List Tb × Int × Int × Int × List V × Int × Int × Int × Int × Int × Unit × Unit × Unit × Unit × Int × Int × Int × Int × Unit × Unit × Int × List Hg × List R2 × Unit → Prop:=fun (_,ks,g,to,l,n,j,sl,px,py,pz,pl,cm,cw,cl,ch,cb,_,_,_,_,lo,hi,tl,th,_,_,below,aft,bef,_) => EnvOk sl ((px,py,pz),pl) (cm,cw,(cl,ch),cb) ∧ ks = knots (px,py,pz) pl ∧ cm = 3 ∧ l = sl ∧ n = l.length ∧ 0 ≤ j ∧ j ≤ n ∧ to = sumT (l.drop j.toNat) ∧ to ≤ lenS ((px,py,pz),pl) ∧ to ≤ 1048576 ∧ LegAt ks to g ∧ StOk ((px,py,pz),pl) ks to below (lo,hi,tl,th) ∧ (aft.length:Int) + to ≤ 1048576 ∧ (bef.length:Int) + to ≤ 1048576
def O_fo3nl (o:A_fo3):Unit × List K2 × Int × Int × List Tb × Int × Int × List Tb × Int × Int × Int × List V × Int × Int × Int × Int × Int × Unit × Unit × Unit × Unit × Int × Int × Int × Int × Unit × Unit × Int × List Hg × List R2 × Unit → Tree (Exit × St):=fun (_,ks,g,to,l,n,j,sl,px,py,pz,pl,cm,cw,cl,ch,cb,_,_,_,_,lo,hi,tl,th,_,_,below,aft,bef,_) => .cond (runF sl ((px,py,pz),pl) (cm,cw,(cl,ch),cb) below (lo,hi,tl,th) aft bef (pcsL ks j to (l.drop j.toNat))).1 (.leaf (.exit 0,L_fo3nl_0.st (U_fo3 o) ((),(),(),(runF sl ((px,py,pz),pl) (cm,cw,(cl,ch),cb) below (lo,hi,tl,th) aft bef (pcsL ks j to (l.drop j.toNat))).2.2.2.1,(runF sl ((px,py,pz),pl) (cm,cw,(cl,ch),cb) below (lo,hi,tl,th) aft bef (pcsL ks j to (l.drop j.toNat))).2.2.2.2,()))) (.leaf (.exit 0,L_fo3nl_1.st (U_fo3 o) ((),(),false,())))
def R_fo3nl (o:A_fo3):LRun:=runOf 65 L_fo3nl (fun x => x) (inv_fo3nl o) (O_fo3nl o)
set_option maxHeartbeats 4000000 in
theorem K_fo3nl (o:A_fo3):LoopOk P (Y_fo3 o) 65 none (U_fo3 o) C_fo3nl (R_fo3nl o):=by
  refine loop_of hm (cx:=[]) [(2,R_fo3n2 o)] (xl:=X_fo3nl) (α:=Unit × List K2 × Int × Int × List Tb × Int × Int × List Tb × Int × Int × Int × List V × Int × Int × Int × Int × Int × Unit × Unit × Unit × Unit × Int × Int × Int × Int × Unit × Unit × Int × List Hg × List R2 × Unit) (fun x => x) (fun (_,ks,g,to,l,n,j,_) => (n - j).toNat) (fun _ => rfl) (by kernel_rfl) (by kernel_rfl) ?_ (by kernel_rfl) ⟨K_fo3n2 o,trivial⟩ ?_
  · intro e S L' h
    unfold X_fo3nl at h
    split at h <;> first | (cases h; done) | (cases h; kernel_rfl) | (rcases bif_some h with h | h <;> cases h <;> kernel_rfl)
  · rintro ⟨⟨⟩,ks,g,to,l,n,j,sl,px,py,pz,pl,cm,cw,cl,ch,cb,⟨⟩,⟨⟩,⟨⟩,⟨⟩,lo,hi,tl,th,⟨⟩,⟨⟩,below,aft,bef,⟨⟩⟩ hinv Q hQ
    refine hold_of_eq (B_fo3nl o ks g to l n j sl px py pz pl cm cw cl ch cb lo hi tl th below aft bef) ?_
    obtain ⟨henv,hks,rfl,rfl,rfl,h0,h1,rfl,h5,h6,h7,hst,ha,hb⟩:=hinv
    have hd:Down ks (lenS ((px,py,pz),pl)):=by rw [hks]; exact fits_down henv.fits
    obtain ⟨_,g2,g3,g4⟩:=checkT_ok (fitsS_ok henv.fits).1
    unfold O_fo3nl at hQ
    dsimp only at hQ
    rw [W_id (n:=j + 1) (by omega) (by omega)]
    refine ⟨fun c1 => ?_,fun c1 => ?_⟩
    · have c1:j < (l.length:Int):=of_decide_eq_true c1
      have hf:=(g3 _ (mem_getD (d:=zT) h0 c1)).prod
      have hs:=sumT_step h0 c1
      have hr:=(sumT_rng (l.drop (j + 1).toNat) (g3.drop _)).1
      rw [pcsL_step h0 c1,runF_append] at hQ
      generalize sumT (l.drop j.toNat) = to at *
      generalize l.getD j.toNat zT = u at *
      rw [W_id (n:=u.1 * u.2.1) (by omega) (by omega),W_id (n:=to - u.1 * u.2.1) (by omega) (by omega)]
      have e:to - u.1 * u.2.1 = sumT (l.drop (j + 1).toNat):=by omega
      rw [e] at hQ ⊢
      have hg:=legAt_end hd j hr _ to g (Nat.le_refl _) (by omega) h5 h7
      have hro:=runF_ok' henv hks h0 c1 hr to below (lo,hi,tl,th) aft bef (by omega) h5 h6 hst
      refine ⟨⟨h0,c1⟩,⟨henv,hks,rfl,h0,c1,hr,by omega,h5,h6,h7,hst,ha,hb⟩,fun c2 => ?_,fun c2 => ?_⟩
      · obtain ⟨q1,q2,q3⟩:=hro c2
        rw [if_pos c2] at hQ
        exact ⟨⟨⟨henv,hks,rfl,rfl,rfl,by omega,by omega,rfl,by omega,by omega,hg,q1,by omega,by omega⟩,by show ((l.length:Int) - (j + 1)).toNat < ((l.length:Int) - j).toNat; omega⟩,hQ⟩
      · rw [if_neg (by rw [c2]; exact Bool.false_ne_true)] at hQ
        exact hQ.2 c2
    · have c1:¬ j < (l.length:Int):=of_decide_eq_false c1
      rw [drop_end c1,pcsL_nil,runF_nil] at hQ
      exact hQ.1 rfl
theorem G_fo3 (sl:List Tb) (px py pz:Int) (pl:List V) (cm cw cl ch cb:Int) (lo hi tl th:Int) (below:Int) (aft:List Hg) (bef:List R2) (qx qy qz:Int) (ql:List V) (q2:List Tb):rangeTree (P:=P) [c_Bend.gc,c_wild.gc,c_root.gc,c_Wet.gc,c_down.gc,c_up.gc,c_add,c_Side.gc,c_bendS.gc,c_rubZ.gc,c_Vert.gc,c_plength.gc] (lpOf [(0,R_fo3nl ((),(),(),(),(),(),(),(),(),(),(),(),sl,px,py,pz,pl,cm,cw,cl,ch,cb,(),(),(),(),lo,hi,tl,th,(),(),below,aft,bef,qx,qy,qz,ql,q2,()))]) [] 205 noU 990 (rgFn C_fo3) (rgPs C_fo3).toList (rgAssign C_fo3) (rgBody C_fo3) X_fo3 (L_fo3.st noU ((),(),(),(),(),(),(),(),(),(),(),(),sl,px,py,pz,pl,cm,cw,cl,ch,cb,(),(),(),(),lo,hi,tl,th,(),(),below,aft,bef,qx,qy,qz,ql,q2,())) =
  Tree.need (List.length q2 ≤ (8:Nat) ∧ AllF q2) (.need (inv_fo3nl ((),(),(),(),(),(),(),(),(),(),(),(),sl,px,py,pz,pl,cm,cw,cl,ch,cb,(),(),(),(),lo,hi,tl,th,(),(),below,aft,bef,qx,qy,qz,ql,q2,()) ((),vertS ((qx,qy,qz),ql),IntKind.i64.wrap ((ql.length:Int) - (1:Int)),sumT q2,q2,(q2.length:Int),(0:Int),sl,px,py,pz,pl,cm,cw,cl,ch,cb,(),(),(),(),lo,hi,tl,th,(),(),below,aft,bef,())) (.cond (runF sl ((px,py,pz),pl) (cm,cw,(cl,ch),cb) below (lo,hi,tl,th) aft bef (pcsL (vertS ((qx,qy,qz),ql)) (0:Int) (sumT q2) (List.drop (Int.toNat (0:Int)) q2))).fst (.leaf (Exit.normal,Lay.st L_fo3_0 noU ((),(),(),(),(),(),(),(),(runF sl ((px,py,pz),pl) (cm,cw,(cl,ch),cb) below (lo,hi,tl,th) aft bef (pcsL (vertS ((qx,qy,qz),ql)) (0:Int) (sumT q2) (List.drop (Int.toNat (0:Int)) q2))).snd.snd.snd.fst,(runF sl ((px,py,pz),pl) (cm,cw,(cl,ch),cb) below (lo,hi,tl,th) aft bef (pcsL (vertS ((qx,qy,qz),ql)) (0:Int) (sumT q2) (List.drop (Int.toNat (0:Int)) q2))).snd.snd.snd.snd,()))) (.leaf (Exit.ret,Lay.st L_fo3_1 noU ((),(),(),(),(),false,()))))):=by kernel_rfl
def inv_fo3:Unit × Unit × Unit × Unit × Unit × Unit × Unit × Unit × Unit × Unit × Unit × Unit × List Tb × Int × Int × Int × List V × Int × Int × Int × Int × Int × Unit × Unit × Unit × Unit × Int × Int × Int × Int × Unit × Unit × Int × List Hg × List R2 × Int × Int × Int × List V × List Tb × Unit → Prop:=fun (_,_,_,_,_,_,_,_,_,_,_,_,sl,px,py,pz,pl,cm,cw,cl,ch,cb,_,_,_,_,lo,hi,tl,th,_,_,below,aft,bef,qx,qy,qz,ql,q2,_) => EnvOk sl ((px,py,pz),pl) (cm,cw,(cl,ch),cb) ∧ cm = 3 ∧ OkX lo hi ∧ below = -1 ∧ aft = [] ∧ bef = [] ∧ qx = px ∧ qy = py ∧ qz = pz ∧ ql = pl ∧ q2 = sl
def O_fo3:Unit × Unit × Unit × Unit × Unit × Unit × Unit × Unit × Unit × Unit × Unit × Unit × List Tb × Int × Int × Int × List V × Int × Int × Int × Int × Int × Unit × Unit × Unit × Unit × Int × Int × Int × Int × Unit × Unit × Int × List Hg × List R2 × Int × Int × Int × List V × List Tb × Unit → Tree (Exit × St):=fun (_,_,_,_,_,_,_,_,_,_,_,_,sl,px,py,pz,pl,cm,cw,cl,ch,cb,_,_,_,_,lo,hi,tl,th,_,_,below,aft,bef,qx,qy,qz,ql,q2,_) => .cond (runF sl ((px,py,pz),pl) (cm,cw,(cl,ch),cb) below (lo,hi,tl,th) aft bef (pcsS sl ((px,py,pz),pl))).1 (.leaf (.normal,L_fo3_0.st noU ((),(),(),(),(),(),(),(),(runF sl ((px,py,pz),pl) (cm,cw,(cl,ch),cb) below (lo,hi,tl,th) aft bef (pcsS sl ((px,py,pz),pl))).2.2.2.1,(runF sl ((px,py,pz),pl) (cm,cw,(cl,ch),cb) below (lo,hi,tl,th) aft bef (pcsS sl ((px,py,pz),pl))).2.2.2.2,()))) (.leaf (.ret,L_fo3_1.st noU ((),(),(),(),(),false,())))
def R_fo3:LRun:=runOf 205 L_fo3 (fun x => x) (inv_fo3) (O_fo3)
theorem H_fo3 (sl:List Tb) (px py pz:Int) (pl:List V) (cm cw cl ch cb:Int) (lo hi tl th:Int) (below:Int) (aft:List Hg) (bef:List R2) (qx qy qz:Int) (ql:List V) (q2:List Tb) (hinv:inv_fo3 ((),(),(),(),(),(),(),(),(),(),(),(),sl,px,py,pz,pl,cm,cw,cl,ch,cb,(),(),(),(),lo,hi,tl,th,(),(),below,aft,bef,qx,qy,qz,ql,q2,())) (Q:Exit × St → Prop) (hQ:(O_fo3 ((),(),(),(),(),(),(),(),(),(),(),(),sl,px,py,pz,pl,cm,cw,cl,ch,cb,(),(),(),(),lo,hi,tl,th,(),(),below,aft,bef,qx,qy,qz,ql,q2,())).holds Q):Hold Q (rangeTree (P:=P) [c_Bend.gc,c_wild.gc,c_root.gc,c_Wet.gc,c_down.gc,c_up.gc,c_add,c_Side.gc,c_bendS.gc,c_rubZ.gc,c_Vert.gc,c_plength.gc] (lpOf [(0,R_fo3nl ((),(),(),(),(),(),(),(),(),(),(),(),sl,px,py,pz,pl,cm,cw,cl,ch,cb,(),(),(),(),lo,hi,tl,th,(),(),below,aft,bef,qx,qy,qz,ql,q2,()))]) [] 205 noU 990 (rgFn C_fo3) (rgPs C_fo3).toList (rgAssign C_fo3) (rgBody C_fo3) X_fo3 (L_fo3.st noU ((),(),(),(),(),(),(),(),(),(),(),(),sl,px,py,pz,pl,cm,cw,cl,ch,cb,(),(),(),(),lo,hi,tl,th,(),(),below,aft,bef,qx,qy,qz,ql,q2,()))):=by
    have e:=G_fo3 sl px py pz pl cm cw cl ch cb lo hi tl th below aft bef qx qy qz ql q2
    generalize rangeTree (P:=P) [c_Bend.gc,c_wild.gc,c_root.gc,c_Wet.gc,c_down.gc,c_up.gc,c_add,c_Side.gc,c_bendS.gc,c_rubZ.gc,c_Vert.gc,c_plength.gc] (lpOf [(0,R_fo3nl ((),(),(),(),(),(),(),(),(),(),(),(),sl,px,py,pz,pl,cm,cw,cl,ch,cb,(),(),(),(),lo,hi,tl,th,(),(),below,aft,bef,qx,qy,qz,ql,q2,()))]) [] 205 noU 990 (rgFn C_fo3) (rgPs C_fo3).toList (rgAssign C_fo3) (rgBody C_fo3) X_fo3 (L_fo3.st noU ((),(),(),(),(),(),(),(),(),(),(),(),sl,px,py,pz,pl,cm,cw,cl,ch,cb,(),(),(),(),lo,hi,tl,th,(),(),below,aft,bef,qx,qy,qz,ql,q2,())) = t at e ⊢
    subst e
    constructor
    obtain ⟨henv,rfl,hX,rfl,rfl,rfl,rfl,rfl,rfl,rfl,rfl⟩:=hinv
    have hd:=fits_down henv.fits
    obtain ⟨f1,f2,f3⟩:=fitsS_ok henv.fits
    obtain ⟨_,g2,g3,g4⟩:=checkT_ok f1
    have hlen:=checkS_len f2
    have hpos:0 < ql.length:=List.length_pos_iff.2 (fits_legs henv.fits)
    have hkl:=knots_length (qx,qy,qz) ql
    have hs:=(sumT_rng q2 g3).1
    dsimp only at hd hlen hkl
    have hv:vertS ((qx,qy,qz),ql) = knots (qx,qy,qz) ql:=vertS_fits henv.fits
    rw [hv,W_id (n:=(ql.length:Int) - 1) (by omega) (by omega)]
    unfold O_fo3 at hQ
    dsimp only at hQ
    unfold pcsS at hQ
    rw [if_pos henv.fits] at hQ
    refine ⟨⟨g2,g3⟩,⟨henv,rfl,rfl,rfl,rfl,by decide,by omega,rfl,f3,g4,⟨by omega,by omega,fun hp => ?_⟩,⟨hX,by decide,by show (-1:Int) < ql.length; omega,fun h => absurd h (by decide)⟩,by show (0:Int) + sumT q2 ≤ 1048576; omega,by show (0:Int) + sumT q2 ≤ 1048576; omega⟩,?_⟩
    · have:=(legOf_ok hd hp f3).2.1
      omega
    · simp only [Int.toNat_zero,List.drop_zero]
      exact hQ
theorem J_fo3 (a:A_fo3):AllK P (Y_fo3 a) 65 none (U_fo3 a) (bodyOf Tryz.f98) [(0,R_fo3nl a)]:=⟨K_fo3nl a,trivial⟩
theorem K_fo3:LoopOk P [] 205 none noU C_fo3 (R_fo3):=by
  refine range_of hm (cx:=[c_Bend.gc,c_wild.gc,c_root.gc,c_Wet.gc,c_down.gc,c_up.gc,c_add,c_Side.gc,c_bendS.gc,c_rubZ.gc,c_Vert.gc,c_plength.gc]) (xl:=X_fo3) (α:=Unit × Unit × Unit × Unit × Unit × Unit × Unit × Unit × Unit × Unit × Unit × Unit × List Tb × Int × Int × Int × List V × Int × Int × Int × Int × Int × Unit × Unit × Unit × Unit × Int × Int × Int × Int × Unit × Unit × Int × List Hg × List R2 × Int × Int × Int × List V × List Tb × Unit) (fun x => x) 990 (gf:=98) (fnI:=Tryz.f98) (fun a => [(0,R_fo3nl a)]) (fun _ => rfl) (by kernel_rfl) (by kernel_rfl) ?_ (by kernel_rfl) (fun a => ⟨encK [(52205,0),(52206,0)],by kernel_rfl⟩) (by kernel_rfl) ?_ ?_
  · intro e S L' h
    unfold X_fo3 at h
    split at h <;> first | (cases h; done) | (cases h; kernel_rfl) | (rcases bif_some h with h | h <;> cases h <;> kernel_rfl)
  · intro a; exact J_fo3 a
  · have tup:∀ Pr:Unit × Unit × Unit × Unit × Unit × Unit × Unit × Unit × Unit × Unit × Unit × Unit × List Tb × Int × Int × Int × List V × Int × Int × Int × Int × Int × Unit × Unit × Unit × Unit × Int × Int × Int × Int × Unit × Unit × Int × List Hg × List R2 × Int × Int × Int × List V × List Tb × Unit → Prop,(∀ (sl:List Tb) (px py pz:Int) (pl:List V) (cm cw cl ch cb:Int) (lo hi tl th:Int) (below:Int) (aft:List Hg) (bef:List R2) (qx qy qz:Int) (ql:List V) (q2:List Tb),Pr ((),(),(),(),(),(),(),(),(),(),(),(),sl,px,py,pz,pl,cm,cw,cl,ch,cb,(),(),(),(),lo,hi,tl,th,(),(),below,aft,bef,qx,qy,qz,ql,q2,())) → ∀ a,Pr a:=fun Pr h a => h (a.2.2.2.2.2.2.2.2.2.2.2.2.1) (a.2.2.2.2.2.2.2.2.2.2.2.2.2.1) (a.2.2.2.2.2.2.2.2.2.2.2.2.2.2.1) (a.2.2.2.2.2.2.2.2.2.2.2.2.2.2.2.1) (a.2.2.2.2.2.2.2.2.2.2.2.2.2.2.2.2.1) (a.2.2.2.2.2.2.2.2.2.2.2.2.2.2.2.2.2.1) (a.2.2.2.2.2.2.2.2.2.2.2.2.2.2.2.2.2.2.1) (a.2.2.2.2.2.2.2.2.2.2.2.2.2.2.2.2.2.2.2.1) (a.2.2.2.2.2.2.2.2.2.2.2.2.2.2.2.2.2.2.2.2.1) (a.2.2.2.2.2.2.2.2.2.2.2.2.2.2.2.2.2.2.2.2.2.1) (a.2.2.2.2.2.2.2.2.2.2.2.2.2.2.2.2.2.2.2.2.2.2.2.2.2.2.1) (a.2.2.2.2.2.2.2.2.2.2.2.2.2.2.2.2.2.2.2.2.2.2.2.2.2.2.2.1) (a.2.2.2.2.2.2.2.2.2.2.2.2.2.2.2.2.2.2.2.2.2.2.2.2.2.2.2.2.1) (a.2.2.2.2.2.2.2.2.2.2.2.2.2.2.2.2.2.2.2.2.2.2.2.2.2.2.2.2.2.1) (a.2.2.2.2.2.2.2.2.2.2.2.2.2.2.2.2.2.2.2.2.2.2.2.2.2.2.2.2.2.2.2.2.1) (a.2.2.2.2.2.2.2.2.2.2.2.2.2.2.2.2.2.2.2.2.2.2.2.2.2.2.2.2.2.2.2.2.2.1) (a.2.2.2.2.2.2.2.2.2.2.2.2.2.2.2.2.2.2.2.2.2.2.2.2.2.2.2.2.2.2.2.2.2.2.1) (a.2.2.2.2.2.2.2.2.2.2.2.2.2.2.2.2.2.2.2.2.2.2.2.2.2.2.2.2.2.2.2.2.2.2.2.1) (a.2.2.2.2.2.2.2.2.2.2.2.2.2.2.2.2.2.2.2.2.2.2.2.2.2.2.2.2.2.2.2.2.2.2.2.2.1) (a.2.2.2.2.2.2.2.2.2.2.2.2.2.2.2.2.2.2.2.2.2.2.2.2.2.2.2.2.2.2.2.2.2.2.2.2.2.1) (a.2.2.2.2.2.2.2.2.2.2.2.2.2.2.2.2.2.2.2.2.2.2.2.2.2.2.2.2.2.2.2.2.2.2.2.2.2.2.1) (a.2.2.2.2.2.2.2.2.2.2.2.2.2.2.2.2.2.2.2.2.2.2.2.2.2.2.2.2.2.2.2.2.2.2.2.2.2.2.2.1)
    refine tup _ ?_
    intro sl px py pz pl cm cw cl ch cb lo hi tl th below aft bef qx qy qz ql q2 hinv Q hQ
    exact H_fo3 sl px py pz pl cm cw cl ch cb lo hi tl th below aft bef qx qy qz ql q2 hinv Q hQ
set_option maxHeartbeats 2000000 in
theorem T_follow3 (sl :  List Tb) (px py pz :  Int) (pl :  List V) (cw cl ch cb :  Int):fnTree (P:=P) [c_add,c_rules.gc,c_pieces.gc] (lpOf [(0,R_fo3)]) Tryz.f67 (encL 0 [.agg tTs,.agg tPath,.agg tCs] (sl,((px,py,pz),pl),((3:Int),cw,(cl,ch),cb),())) =
  Tree.cond false (.need (inv_fo3 ((),(),(),(),(),(),(),(),(),(),(),(),sl,px,py,pz,pl,(3:Int),cw,cl,ch,cb,(),(),(),(),IntKind.i64.wrap (IntKind.i64.wrap ((0:Int) + IntKind.i64.wrap ((0:Int) - cb)) + IntKind.i64.wrap ((2:Int) * cb)),IntKind.i64.wrap (IntKind.i64.wrap ((0:Int) + IntKind.i64.wrap ((0:Int) - cb)) + IntKind.i64.wrap ((2:Int) * cb)),(0:Int),(0:Int),(),(),(-1:Int),[],[],px,py,pz,pl,sl,())) (.cond (runF sl ((px,py,pz),pl) ((3:Int),cw,(cl,ch),cb) (-1:Int) (IntKind.i64.wrap (IntKind.i64.wrap ((0:Int) + IntKind.i64.wrap ((0:Int) - cb)) + IntKind.i64.wrap ((2:Int) * cb)),IntKind.i64.wrap (IntKind.i64.wrap ((0:Int) + IntKind.i64.wrap ((0:Int) - cb)) + IntKind.i64.wrap ((2:Int) * cb)),(0:Int),(0:Int)) [] [] (pcsS sl ((px,py,pz),pl))).fst (.leaf (SV.tup [SV.sl (Ty.pair tI (Ty.pair tPart tPart)) (runF sl ((px,py,pz),pl) ((3:Int),cw,(cl,ch),cb) (-1:Int) (IntKind.i64.wrap (IntKind.i64.wrap ((0:Int) + IntKind.i64.wrap ((0:Int) - cb)) + IntKind.i64.wrap ((2:Int) * cb)),IntKind.i64.wrap (IntKind.i64.wrap ((0:Int) + IntKind.i64.wrap ((0:Int) - cb)) + IntKind.i64.wrap ((2:Int) * cb)),(0:Int),(0:Int)) [] [] (pcsS sl ((px,py,pz),pl))).snd.snd.snd.fst,SV.sl (Ty.pair tI tI) (runF sl ((px,py,pz),pl) ((3:Int),cw,(cl,ch),cb) (-1:Int) (IntKind.i64.wrap (IntKind.i64.wrap ((0:Int) + IntKind.i64.wrap ((0:Int) - cb)) + IntKind.i64.wrap ((2:Int) * cb)),IntKind.i64.wrap (IntKind.i64.wrap ((0:Int) + IntKind.i64.wrap ((0:Int) - cb)) + IntKind.i64.wrap ((2:Int) * cb)),(0:Int),(0:Int)) [] [] (pcsS sl ((px,py,pz),pl))).snd.snd.snd.snd,SV.bool true])) (.leaf (SV.tup [SV.nils,SV.nils,SV.bool false])))) (.need (inv_fo3 ((),(),(),(),(),(),(),(),(),(),(),(),sl,px,py,pz,pl,(3:Int),cw,cl,ch,cb,(),(),(),(),IntKind.i64.wrap ((0:Int) + IntKind.i64.wrap ((0:Int) - cb)),IntKind.i64.wrap ((0:Int) + IntKind.i64.wrap ((0:Int) - cb)),(0:Int),(0:Int),(),(),(-1:Int),[],[],px,py,pz,pl,sl,())) (.cond (runF sl ((px,py,pz),pl) ((3:Int),cw,(cl,ch),cb) (-1:Int) (IntKind.i64.wrap ((0:Int) + IntKind.i64.wrap ((0:Int) - cb)),IntKind.i64.wrap ((0:Int) + IntKind.i64.wrap ((0:Int) - cb)),(0:Int),(0:Int)) [] [] (pcsS sl ((px,py,pz),pl))).fst (.leaf (SV.tup [SV.sl (Ty.pair tI (Ty.pair tPart tPart)) (runF sl ((px,py,pz),pl) ((3:Int),cw,(cl,ch),cb) (-1:Int) (IntKind.i64.wrap ((0:Int) + IntKind.i64.wrap ((0:Int) - cb)),IntKind.i64.wrap ((0:Int) + IntKind.i64.wrap ((0:Int) - cb)),(0:Int),(0:Int)) [] [] (pcsS sl ((px,py,pz),pl))).snd.snd.snd.fst,SV.sl (Ty.pair tI tI) (runF sl ((px,py,pz),pl) ((3:Int),cw,(cl,ch),cb) (-1:Int) (IntKind.i64.wrap ((0:Int) + IntKind.i64.wrap ((0:Int) - cb)),IntKind.i64.wrap ((0:Int) + IntKind.i64.wrap ((0:Int) - cb)),(0:Int),(0:Int)) [] [] (pcsS sl ((px,py,pz),pl))).snd.snd.snd.snd,SV.bool true])) (.leaf (SV.tup [SV.nils,SV.nils,SV.bool false])))):=by kernel_rfl
set_option maxHeartbeats 2000000 in
def c_follow3:PC P:=PC.of (α:=List Tb × Pth × Cs × Unit) 67 [.agg tTs,.agg tPath,.agg tCs] (fun x => x) (fun x => x) (fun _ => rfl)
  (fun x => some (x.2.2.1.1 = 3 ∧ EnvOk x.1 x.2.1 x.2.2.1))
  (fun x => .tup [.sl tHg (folS x.1 x.2.1 x.2.2.1).2.1,.sl tPart (folS x.1 x.2.1 x.2.2.1).2.2,.bool (folS x.1 x.2.1 x.2.2.1).1]) (by kernel_rfl) (by
    rintro ⟨sl,⟨⟨px,py,pz⟩,pl⟩,⟨cm,cw,⟨cl,ch⟩,cb⟩,⟨⟩⟩ hp
    obtain ⟨hlit,hp⟩ : cm = 3 ∧ _:=hp
    subst hlit
    refine fn_le hm (by kernel_rfl) (by kernel_rfl) (T_follow3 sl px py pz pl cw cl ch cb) ⟨K_fo3,trivial⟩ (by kernel_rfl) ?_
    have henv:EnvOk sl ((px,py,pz),pl) (3,cw,(cl,ch),cb):=hp
    have hbit:0 ≤ cb ∧ cb ≤ 1099511627776:=henv.case.bit
    have hst:startS (3,cw,(cl,ch),cb) = (-cb,-cb,0,0):=if_neg (show ¬ (3:Int) = 1 by decide)
    show Tree.holds (fun s => LeS s (SV.tup [.sl tHg (folS sl ((px,py,pz),pl) (3,cw,(cl,ch),cb)).2.1,.sl tPart (folS sl ((px,py,pz),pl) (3,cw,(cl,ch),cb)).2.2,.bool (folS sl ((px,py,pz),pl) (3,cw,(cl,ch),cb)).1])) _
    rw [W_id (n:=0 - cb) (by omega) (by omega),W_id (n:=0 + (0 - cb)) (by omega) (by omega),W_id (n:=2 * cb) (by omega) (by omega),W_id (n:=0 + (0 - cb) + 2 * cb) (by omega) (by omega),show 0 + (0 - cb) = -cb by omega]
    unfold folS
    rw [hst]
    have fin:∀ R:Bool × Int × H4 × List Hg × List R2,(R.1 = true → LeS (SV.tup [.sl tHg R.2.2.2.1,.sl tPart R.2.2.2.2,.bool true]) (SV.tup [.sl tHg (if R.1 = true then (true,R.2.2.2.1,R.2.2.2.2) else (false,[],[])).2.1,.sl tPart (if R.1 = true then (true,R.2.2.2.1,R.2.2.2.2) else (false,[],[])).2.2,.bool (if R.1 = true then (true,R.2.2.2.1,R.2.2.2.2) else (false,[],[])).1])) ∧
        (R.1 = false → LeS (SV.tup [.nils,.nils,.bool false]) (SV.tup [.sl tHg (if R.1 = true then (true,R.2.2.2.1,R.2.2.2.2) else (false,[],[])).2.1,.sl tPart (if R.1 = true then (true,R.2.2.2.1,R.2.2.2.2) else (false,[],[])).2.2,.bool (if R.1 = true then (true,R.2.2.2.1,R.2.2.2.2) else (false,[],[])).1])):=by
      intro R
      refine ⟨fun h => ?_,fun h => ?_⟩
      · rw [if_pos h]; exact ⟨rfl,rfl,rfl,trivial⟩
      · rw [if_neg (by rw [h]; exact Bool.false_ne_true)]; exact ⟨rfl,rfl,rfl,trivial⟩
    refine ⟨fun h => (by cases h),fun _ => ?_⟩
    exact ⟨⟨henv,rfl,⟨by omega,by omega,by omega⟩,rfl,rfl,rfl,rfl,rfl,rfl,rfl,rfl⟩,(fin _).1,(fin _).2⟩)
def c_follow:PC P:=PC.of (α:=List Tb × Pth × Cs × Unit) 67 [.agg tTs,.agg tPath,.agg tCs] (fun x => x) (fun x => x) (fun _ => rfl)
  (fun x => some (EnvOk x.1 x.2.1 x.2.2.1))
  (fun x => .tup [.sl tHg (folS x.1 x.2.1 x.2.2.1).2.1,.sl tPart (folS x.1 x.2.1 x.2.2.1).2.2,.bool (folS x.1 x.2.1 x.2.2.1).1]) (by kernel_rfl)
  (by
    intro x hp
    have henv:EnvOk x.1 x.2.1 x.2.2.1:=hp
    have hm:=henv.case.mode
    rcases (show x.2.2.1.1 = 1 ∨ x.2.2.1.1 = 2 ∨ x.2.2.1.1 = 3 by omega) with e | e | e
    · exact c_follow1.ok x ⟨e,henv⟩
    · exact c_follow2.ok x ⟨e,henv⟩
    · exact c_follow3.ok x ⟨e,henv⟩)
end
end Go.MP
