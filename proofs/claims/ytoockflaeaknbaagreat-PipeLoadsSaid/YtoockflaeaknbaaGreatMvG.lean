/- Pieces of a string in a path: the program's iterator, and the reference's list. -/
import Derived.Test.YtoockflaeaknbaaGreatMvF
import Derived.Test.YtoockflaeaknbaaGreatMvB
import Derived.Test.YtoockflaeaknbaaGreatMvR
namespace Go.MP
open Go Go.Sx Go.Proofs
set_option linter.unusedVariables false
set_option linter.unusedSimpArgs false
noncomputable section
abbrev tKs:Ty:=.sl tK
theorem kl_down:∀ (l:List V) (a:V) (d z:Int),(∀ v ∈ l,legOk v) → 0 ≤ d → d + 131072 * l.length ≤ 1099511627776 →
    (∀ i j:Nat,i < j → j ≤ l.length → (((d,z) :: kl a d l).getD i (0,0)).1 < (((d,z) :: kl a d l).getD j (0,0)).1) ∧ (((d,z) :: kl a d l).getD l.length (0,0)).1 = sumL d l
  | [],a,d,z,_,_,_ => by
    refine ⟨fun i j h1 h2 => ?_,rfl⟩
    have hj:j = 0:=by simpa using h2
    omega
  | v :: r,a,d,z,hl,h0,h1 => by
    have hv:=hl v (by simp)
    obtain ⟨_,w1,w2⟩:=hv
    rw [List.length_cons] at h1
    have hw:IntKind.i64.wrap (d + (wholeS v).1) = d + (wholeS v).1:=W_id (by omega) (by omega)
    obtain ⟨ih1,ih2⟩:=kl_down r (vadd a v) (d + (wholeS v).1) (IntKind.i64.wrap (a.2.2 + v.2.2)) (fun u hu => hl u (by simp [hu])) (by omega) (by omega)
    have e:kl a d (v :: r) = (d + (wholeS v).1,IntKind.i64.wrap (a.2.2 + v.2.2)) :: kl (vadd a v) (d + (wholeS v).1) r:=by rw [kl,hw]
    rw [e]
    refine ⟨fun i j hij hj => ?_,?_⟩
    · rw [List.length_cons] at hj
      cases j with
      | zero => omega
      | succ j =>
        rw [List.getD_cons_succ]
        cases i with
        | zero =>
          rw [List.getD_cons_zero]
          cases j with
          | zero =>
            rw [List.getD_cons_zero]
            dsimp only
            omega
          | succ j =>
            have:=ih1 0 (j + 1) (by omega) (by omega)
            rw [List.getD_cons_zero] at this
            dsimp only at this ⊢
            omega
        | succ i =>
          rw [List.getD_cons_succ]
          exact ih1 i j (by omega) (by omega)
    · rw [List.length_cons,List.getD_cons_succ,ih2]
      show sumL (d + (wholeS v).1) r = sumL d (v :: r)
      unfold sumL
      rw [List.foldl_cons,hw]
theorem down_of {p:Pth} (h:checkS p = 0) (h2:p.2 ≠ []):Down (knots p.1 p.2) (lenS p):=by
  have hlen:=checkS_len h
  have hk:=knots_length p.1 p.2
  have hpos:0 < p.2.length:=List.length_pos_iff.2 h2
  obtain ⟨k1,k2⟩:=kl_down p.2 p.1 0 p.1.2.2 (checkS_legs h) (by decide) (by omega)
  refine ⟨by omega,rfl,?_,fun i j h0 h1 h2 => ?_⟩
  · unfold lenS
    rw [if_pos h]
    unfold knotA
    rw [show ((knots p.1 p.2).length:Int) - 1 = ((p.2.length:Nat):Int) by omega,Int.toNat_natCast]
    exact Int.le_of_eq k2.symm
  · exact k1 i.toNat j.toNat (by omega) (by omega)
theorem sumT_pos {l:List Tb} (h:checkT l = 0):100 ≤ sumT l:=by
  obtain ⟨h1,h2,h3,h4⟩:=checkT_ok h
  cases l with
  | nil => exact absurd rfl h1
  | cons t r =>
    have a:=(h3 t (by simp)).prod
    have b:=sumT_rng r fun u hu => h3 u (by simp [hu])
    rw [sumT]; omega
theorem fits_legs {l:List Tb} {p:Pth} (h:fitsS l p = 0):p.2 ≠ []:=by
  obtain ⟨h1,h2,h3⟩:=fitsS_ok h
  intro e
  have:=sumT_pos h1
  unfold lenS at h3
  rw [if_pos h2,e] at h3
  have:sumL 0 [] = 0:=rfl
  omega
theorem fits_down {l:List Tb} {p:Pth} (h:fitsS l p = 0):Down (knots p.1 p.2) (lenS p):=down_of (fitsS_ok h).2.1 (fits_legs h)
theorem vertS_fits {l:List Tb} {p:Pth} (h:fitsS l p = 0):vertS p = knots p.1 p.2:=by
  unfold vertS; rw [if_pos (fitsS_ok h).2.1]
def endLeg (g:Int) (l:List Pc):Int:=l.foldl (fun _ q => q.2.1) g
theorem endLeg_cons (g:Int) (q:Pc) (l:List Pc):endLeg g (q :: l) = endLeg q.2.1 l:=rfl
theorem endLeg_nil (g:Int):endLeg g [] = g:=rfl
def LegAt (ks:List K2) (to g:Int):Prop:=0 ≤ g ∧ g + 1 < ks.length ∧ (0 < to → legOf ks to ≤ g)
theorem legAt_end {ks:List K2} {L:Int} (hd:Down ks L) (i:Int) {top:Int} (h0:0 ≤ top):∀ (n:Nat) (to g:Int),(to - top).toNat ≤ n → top ≤ to → to ≤ L → LegAt ks to g →
    LegAt ks top (endLeg g (tubeS ks i top to)):=by
  intro n
  induction n with
  | zero =>
    intro to g hn ht hL hg
    have e:to = top:=by omega
    subst e
    rw [tubeS_nil _ _ _ (Int.le_refl _),endLeg_nil]
    exact hg
  | succ n ih =>
    intro to g hn ht hL hg
    by_cases h:to ≤ top
    · have e:to = top:=by omega
      subst e
      rw [tubeS_nil _ _ _ (Int.le_refl _),endLeg_nil]
      exact hg
    · obtain ⟨l1,l2,l3,l4⟩:=legOf_ok hd (show 0 < to by omega) hL
      rw [tubeS_step hd i h0 (by omega) hL,endLeg_cons]
      have hm:top ≤ maxI top (knotA ks (legOf ks to)) ∧ maxI top (knotA ks (legOf ks to)) < to:=by rw [maxI_eq]; omega
      exact ih _ _ (by omega) hm.1 (by omega) ⟨l1,l2,fun hp => legOf_mono hd hp (by omega) hL⟩
theorem pcsL_step {ks:List K2} {i to:Int} {l:List Tb} (h0:0 ≤ i) (h:i < l.length) :
    pcsL ks i to (l.drop i.toNat) = tubeS ks i (to - (l.getD i.toNat zT).1 * (l.getD i.toNat zT).2.1) to ++ pcsL ks (i + 1) (to - (l.getD i.toNat zT).1 * (l.getD i.toNat zT).2.1) (l.drop (i + 1).toNat):=by
  rw [drop_step zT h0 h]; rfl
theorem pcsL_nil (ks:List K2) (i to:Int):pcsL ks i to [] = []:=rfl
def addP (a l:List Pc):List Pc:=a ++ l
theorem addP_nil (a:List Pc):addP a [] = a:=List.append_nil a
theorem addP_cons (a:List Pc) (q:Pc) (l:List Pc):addP a (q :: l) = addP (a ++ [q]) l:=by unfold addP; rw [List.append_cons]
theorem addP_append (a l m:List Pc):addP a (l ++ m) = addP (addP a l) m:=by unfold addP; rw [List.append_assoc]
theorem addP_len (a l:List Pc):((addP a l).length:Int) = a.length + l.length:=by unfold addP; rw [List.length_append]; omega
theorem tubeS_len {ks:List K2} {L:Int} (hd:Down ks L) (i:Int) {top:Int} (h0:0 ≤ top):∀ (n:Nat) (to:Int),(to - top).toNat ≤ n → to ≤ L → top ≤ to → ((tubeS ks i top to).length:Int) ≤ to - top:=by
  intro n
  induction n with
  | zero =>
    intro to hn hL ht
    rw [tubeS_nil _ _ _ (show to ≤ top by omega)]; simp; omega
  | succ n ih =>
    intro to hn hL ht
    by_cases h:to ≤ top
    · rw [tubeS_nil _ _ _ h]; simp; omega
    · obtain ⟨l1,l2,l3,l4⟩:=legOf_ok hd (show 0 < to by omega) hL
      rw [tubeS_step hd i h0 (by omega) hL,List.length_cons]
      have hm:top ≤ maxI top (knotA ks (legOf ks to)) ∧ maxI top (knotA ks (legOf ks to)) < to:=by rw [maxI_eq]; omega
      have:=ih _ (show (maxI top (knotA ks (legOf ks to)) - top).toNat ≤ n by omega) (by omega) hm.1
      omega
theorem T_Fits (l_0:List Tb) (p_0 p_1 p_2:Int) (p_3:List V):fnTree (P:=P) [c_TCheck.gc,c_Check.gc,c_plength.gc,c_Length.gc] (lpOf []) Tryz.f66 (encL 0 [.agg tTs,.agg (.pair tV tVs)] (l_0,((p_0,(p_1,p_2)),p_3),())) =
  Tree.need ((l_0.length:Int) < (2:Int) ^ (62:Nat)) (.cond (checkT l_0 != (0:Int)) (.leaf (SV.int IntKind.i64 (checkT l_0))) (.cond (checkS ((p_0,p_1,p_2),p_3) != (0:Int)) (.leaf (SV.int IntKind.i64 (checkS ((p_0,p_1,p_2),p_3)))) (.need (List.length l_0 ≤ (8:Nat) ∧ AllF l_0) (.cond (decide (sumT l_0 > lenS ((p_0,p_1,p_2),p_3))) (.leaf (SV.int IntKind.i64 (5:Int))) (.leaf (SV.int IntKind.i64 (0:Int))))))):=by kernel_rfl
def c_Fits:PC P:=PC.of (α:=List Tb × (V × List V) × Unit) 66 [.agg tTs,.agg (.pair tV tVs)] (fun x => x) (fun x => x) (fun _ => rfl)
  (fun x => some ((x.1.length:Int) < 2 ^ 62))
  (fun x => .int .i64 (fitsS x.1 x.2.1)) (by kernel_rfl) (by
    rintro ⟨l_0,⟨⟨p_0,⟨p_1,p_2⟩⟩,p_3⟩,⟨⟩⟩ hp
    refine fn_of hm (by kernel_rfl) (by kernel_rfl) (T_Fits l_0 p_0 p_1 p_2 p_3) trivial ?_
    try dsimp only at hp
    try dsimp only
    show Tree.holds (fun s => s = SV.int .i64 (fitsS l_0 ((p_0,p_1,p_2),p_3))) _
    have h62:(l_0.length:Int) < 2 ^ 62:=hp
    unfold fitsS
    refine ⟨h62,fun c1 => ?_,fun c1 => ⟨fun c2 => ?_,fun c2 => ⟨?_,fun c3 => ?_,fun c3 => ?_⟩⟩⟩
    all_goals simp only [bne_iff_ne,bne_eq_false_iff_eq,ne_eq,decide_eq_true_eq,decide_eq_false_iff_not] at *
    · rw [if_pos c1]; exact rfl
    · rw [if_neg (by simp [c1]),if_pos c2]; exact rfl
    · obtain ⟨_,h2,h3,h4⟩:=checkT_ok c1
      exact ⟨h2,h3⟩
    · rw [if_neg (by simp [c1]),if_neg (by simp [c2]),if_pos c3]; exact rfl
    · rw [if_neg (by simp [c1]),if_neg (by simp [c2]),if_neg c3]; exact rfl)
theorem T_rFits (l_0:List Tb) (p_0 p_1 p_2:Int) (p_3:List V):fnTree (P:=P) [c_rTCheck.gc,c_rCheck.gc,c_rlength.gc,c_rLength.gc] (lpOf []) Tryz.f68 (encL 0 [.agg tTs,.agg (.pair tV tVs)] (l_0,((p_0,(p_1,p_2)),p_3),())) =
  Tree.cond (checkT l_0 != (0:Int)) (.leaf (SV.int IntKind.i64 (checkT l_0))) (.cond (checkS ((p_0,p_1,p_2),p_3) != (0:Int)) (.leaf (SV.int IntKind.i64 (checkS ((p_0,p_1,p_2),p_3)))) (.need (List.length l_0 ≤ (8:Nat) ∧ AllF l_0) (.cond (decide (sumT l_0 > lenS ((p_0,p_1,p_2),p_3))) (.leaf (SV.int IntKind.i64 (5:Int))) (.leaf (SV.int IntKind.i64 (0:Int)))))):=by kernel_rfl
def c_rFits:PC P:=PC.of (α:=List Tb × (V × List V) × Unit) 68 [.agg tTs,.agg (.pair tV tVs)] (fun x => x) (fun x => x) (fun _ => rfl)
  (fun _ => none)
  (fun x => .int .i64 (fitsS x.1 x.2.1)) (by kernel_rfl) (by
    rintro ⟨l_0,⟨⟨p_0,⟨p_1,p_2⟩⟩,p_3⟩,⟨⟩⟩ hp
    refine fn_of hm (by kernel_rfl) (by kernel_rfl) (T_rFits l_0 p_0 p_1 p_2 p_3) trivial ?_
    try dsimp only at hp
    try dsimp only
    show Tree.holds (fun s => s = SV.int .i64 (fitsS l_0 ((p_0,p_1,p_2),p_3))) _
    unfold fitsS
    refine ⟨fun c1 => ?_,fun c1 => ⟨fun c2 => ?_,fun c2 => ⟨?_,fun c3 => ?_,fun c3 => ?_⟩⟩⟩
    all_goals simp only [bne_iff_ne,bne_eq_false_iff_eq,ne_eq,decide_eq_true_eq,decide_eq_false_iff_not] at *
    · rw [if_pos c1]; exact rfl
    · rw [if_neg (by simp [c1]),if_pos c2]; exact rfl
    · obtain ⟨_,h2,h3,h4⟩:=checkT_ok c1
      exact ⟨h2,h3⟩
    · rw [if_neg (by simp [c1]),if_neg (by simp [c2]),if_pos c3]; exact rfl
    · rw [if_neg (by simp [c1]),if_neg (by simp [c2]),if_neg c3]; exact rfl)
def L_pieces:Lay:={ slots:=[(0,.agg tTs),(1,.agg tPath)] }
theorem T_pieces (s:List Tb) (x y z:Int) (l:List V):mTree (P:=P) [] (lpOf []) Tryz.f79 L_pieces true (s,((x,y,z),l),()) =
  Tree.leaf { res:=SV.fn (98:Nat) [SV.ptr (nat_lit 100) (0:Nat),SV.ptr (nat_lit 101) (0:Nat)],boxes:=[],news:=[Ob.box [SV.int IntKind.i64 x,SV.int IntKind.i64 y,SV.int IntKind.i64 z,SV.sl tV l],Ob.box [SV.sl tT s]] }:=by kernel_rfl
def c_pieces:MC P:=MC.of (α:=List Tb × Pth × Unit) 79 L_pieces (fun x => x) (fun x => x) (fun _ => rfl)
  (fun _ => none)
  (fun (s,(v,l),_) => ⟨.fn 98 [.ptr 100 0,.ptr 101 0],[],[.box [.int .i64 v.1,.int .i64 v.2.1,.int .i64 v.2.2,.sl tV l],.box [.sl tT s]]⟩) (by kernel_rfl) (by kernel_rfl) (by kernel_rfl) (by
    rintro ⟨s,⟨⟨x,y,z⟩,l⟩,⟨⟩⟩ hp
    refine m_of hm (own:=true) (by kernel_rfl) (by kernel_rfl) (by kernel_rfl) (T_pieces s x y z l) trivial ?_
    exact rfl)
def L_app0:Lay:={ slots:=[(0,.nils),(1,.clo 98 [(1,0),(2,0)])],boxes:=[(1,[.val tI,.val tI,.val tI,.val tVs]),(2,[.val tTs])] }
def L_app:Lay:={ slots:=[(2,.ptr 3013 0),(6,.clo 98 [(1,0),(2,0)])],boxes:=[(1,[.val tI,.val tI,.val tI,.val tVs]),(2,[.val tTs]),(3013,[.row 95 tPc])] }
def L_app_0:Lay:={ slots:=[(2,.ptr 3013 0)],boxes:=[(1,[.val tI,.val tI,.val tI,.val tVs]),(2,[.val tTs]),(3013,[.row 95 tPc])] }
def X_app:Exit → St → Option Lay
  | .normal,_ => some L_app_0
  | _,_ => none
abbrev C_app:Code:=loopC (bodyOf Tryz.f97) 0
abbrev A_app:Type:=Unit × Unit × Int × Int × Int × List V × List Tb × List Pc × Unit
abbrev Y_app (a:A_app):List YH:=[⟨990,roundRun (P:=P) [c_Vert.gc,c_plength.gc] [] 13 990 (L_app.st (usd noU (L_app0.ids ++ rowIds rowBase L_app0.shs)) a).tmps (rgPs C_app).toList (rgAssign C_app) (rgBody C_app)⟩]
abbrev U_app (a:A_app):Nat → Bool:=apU (L_app.st (usd noU (L_app0.ids ++ rowIds rowBase L_app0.shs)) a).used [990]
def L_app4:Lay:={ slots:=[(0,.yld 990),(4,.val tKs),(5,.val tI),(6,.val tI),(7,.val tI),(9,.val tI),(21,.val tTs),(22,.val tI),(23,.val tI)],boxes:=[(1,[.val tI,.val tI,.val tI,.val tVs]),(2,[.val tTs]),(3013,[.row 95 tPc])],recs:=[(990,.ready)] }
def L_app4_0:Lay:={ slots:=[(0,.yld 990),(4,.val tKs),(5,.val tI),(6,.val tI),(7,.val tI),(9,.val tI),(21,.val tTs),(22,.val tI),(23,.val tI)],boxes:=[(1,[.val tI,.val tI,.val tI,.val tVs]),(2,[.val tTs]),(3013,[.row 95 tPc])],recs:=[(990,.ready)] }
def X_app4:Exit → St → Option Lay
  | .exit 4,_ => some L_app4_0
  | _,_ => none
abbrev C_app4:Code:=loopC (inner (loopC (inner (loopC (bodyOf Tryz.f98) 0)) 2)) 4
theorem B_app4 (o:A_app) (ks:List K2) (g to i top:Int) (l:List Tb) (n j:Int) (x y z:Int) (pl:List V) (sl:List Tb) (acc:List Pc):loopBodyA (P:=P) [] (lpOf []) (Y_app o) 65 (U_app o) (inner C_app4) L_app4 X_app4 (α:=Unit × List K2 × Int × Int × Int × Int × List Tb × Int × Int × Int × Int × Int × List V × List Tb × List Pc × Unit) (fun x => x) (fun x => x) ((),ks,g,to,i,top,l,n,j,x,y,z,pl,sl,acc,()) =
  Tree.need ((0:Int) ≤ g ∧ g < (ks.length:Int)) (.cond (decide ((List.getD ks (Int.toNat g) (0,0)).fst ≥ to)) (.leaf (Sum.inl ((),ks,IntKind.i64.wrap (g - (1:Int)),to,i,top,l,n,j,x,y,z,pl,sl,acc,()))) (.leaf (Sum.inr (Exit.exit (4:Nat),Lay.st L_app4_0 (U_app o) ((),ks,g,to,i,top,l,n,j,x,y,z,pl,sl,acc,()))))):=by kernel_rfl
def inv_app4 (o:A_app):Unit × List K2 × Int × Int × Int × Int × List Tb × Int × Int × Int × Int × Int × List V × List Tb × List Pc × Unit → Prop:=fun (_,ks,g,to,i,top,l,n,j,_) => ∃ L,Down ks L ∧ 0 < to ∧ to ≤ L ∧ LegAt ks to g ∧ (ks.length:Int) ≤ 1000
def O_app4 (o:A_app):Unit × List K2 × Int × Int × Int × Int × List Tb × Int × Int × Int × Int × Int × List V × List Tb × List Pc × Unit → Tree (Exit × St):=fun (_,ks,g,to,i,top,l,n,j,x,y,z,pl,sl,acc,_) => .leaf (.exit 4,L_app4_0.st (U_app o) ((),ks,legOf ks to,to,i,top,l,n,j,x,y,z,pl,sl,acc,()))
def R_app4 (o:A_app):LRun:=runOf 65 L_app4 (fun x => x) (inv_app4 o) (O_app4 o)
theorem K_app4 (o:A_app):LoopOk P (Y_app o) 65 none (U_app o) C_app4 (R_app4 o):=by
  refine loop_of hm (cx:=[]) [] (xl:=X_app4) (α:=Unit × List K2 × Int × Int × Int × Int × List Tb × Int × Int × Int × Int × Int × List V × List Tb × List Pc × Unit) (fun x => x) (fun (_,ks,g,_) => g.toNat) (fun _ => rfl) (by kernel_rfl) (by kernel_rfl) ?_ (by kernel_rfl) trivial ?_
  · intro e S L' h
    unfold X_app4 at h
    split at h <;> first | (cases h; done) | (cases h; kernel_rfl) | (rcases bif_some h with h | h <;> cases h <;> kernel_rfl)
  · rintro ⟨⟨⟩,ks,g,to,i,top,l,n,j,x,y,z,pl,sl,acc,⟨⟩⟩ hinv Q hQ
    refine hold_of_eq (B_app4 o ks g to i top l n j x y z pl sl acc) ?_
    obtain ⟨L,hd,h0,h1,⟨h2,h3,h4⟩,h5⟩:=hinv
    have hg:=h4 h0
    obtain ⟨l1,l2,l3,l4⟩:=legOf_ok hd h0 h1
    unfold O_app4 at hQ
    dsimp only at hQ
    refine ⟨⟨h2,by omega⟩,fun c1 => ?_,fun c1 => ?_⟩
    · have c1:knotA ks g ≥ to:=of_decide_eq_true c1
      have hlt:legOf ks to < g:=by
        rcases Int.lt_or_le (legOf ks to) g with e | e
        · exact e
        · have:legOf ks to = g:=by omega
          rw [this] at l3; omega
      rw [W_id (n:=g - 1) (by omega) (by omega)]
      exact ⟨⟨⟨L,hd,h0,h1,⟨by omega,by omega,fun _ => by omega⟩,h5⟩,by show (g - 1).toNat < g.toNat; omega⟩,hQ⟩
    · have c1:¬ knotA ks g ≥ to:=of_decide_eq_false c1
      have e:legOf ks to = g:=by
        rcases Int.lt_or_le (legOf ks to) g with e | e
        · have:=hd.asc (legOf ks to + 1) g (by omega) (by omega) (by omega)
          omega
        · omega
      rw [e] at hQ
      exact hQ
def L_app2:Lay:={ slots:=[(0,.yld 990),(4,.val tKs),(5,.val tI),(6,.val tI),(7,.val tI),(9,.val tI),(21,.val tTs),(22,.val tI),(23,.val tI)],boxes:=[(1,[.val tI,.val tI,.val tI,.val tVs]),(2,[.val tTs]),(3013,[.row 95 tPc])],recs:=[(990,.ready)] }
def L_app2_0:Lay:={ slots:=[(0,.yld 990),(4,.val tKs),(5,.val tI),(6,.val tI),(21,.val tTs),(22,.val tI),(23,.val tI)],boxes:=[(1,[.val tI,.val tI,.val tI,.val tVs]),(2,[.val tTs]),(3013,[.row 95 tPc])],recs:=[(990,.ready)] }
def X_app2:Exit → St → Option Lay
  | .exit 2,_ => some L_app2_0
  | _,_ => none
abbrev C_app2:Code:=loopC (inner (loopC (bodyOf Tryz.f98) 0)) 2
theorem B_app2 (o:A_app) (ks:List K2) (g to i top:Int) (l:List Tb) (n j:Int) (x y z:Int) (pl:List V) (sl:List Tb) (acc:List Pc):loopBodyA (P:=P) [] (lpOf [(4,R_app4 o)]) (Y_app o) 65 (U_app o) (inner C_app2) L_app2 X_app2 (α:=Unit × List K2 × Int × Int × Int × Int × List Tb × Int × Int × Int × Int × Int × List V × List Tb × List Pc × Unit) (fun x => x) (fun x => x) ((),ks,g,to,i,top,l,n,j,x,y,z,pl,sl,acc,()) =
  Tree.cond (decide (to > top)) (.need (inv_app4 o ((),ks,g,to,i,top,l,n,j,x,y,z,pl,sl,acc,())) (.need ((0:Int) ≤ legOf ks to ∧ legOf ks to < (ks.length:Int)) (.need ((List.length acc + List.length [(i,legOf ks to,maxI top (List.getD ks (Int.toNat (legOf ks to)) (0,0)).fst,to)]) * (32:Nat) ≤ (140737488355328:Nat)) (.leaf (Sum.inl ((),ks,legOf ks to,maxI top (List.getD ks (Int.toNat (legOf ks to)) (0,0)).fst,i,top,l,n,j,x,y,z,pl,sl,acc ++ [(i,legOf ks to,maxI top (List.getD ks (Int.toNat (legOf ks to)) (0,0)).fst,to)],())))))) (.leaf (Sum.inr (Exit.exit (2:Nat),Lay.st L_app2_0 (U_app o) ((),ks,g,to,l,n,j,x,y,z,pl,sl,acc,())))):=by kernel_rfl
def inv_app2 (o:A_app):Unit × List K2 × Int × Int × Int × Int × List Tb × Int × Int × Int × Int × Int × List V × List Tb × List Pc × Unit → Prop:=fun (_,ks,g,to,i,top,l,n,j,x,y,z,pl,sl,acc,_) => ∃ L,Down ks L ∧ 0 ≤ top ∧ top ≤ to ∧ to ≤ L ∧ L ≤ 1048576000 ∧ LegAt ks to g ∧ (ks.length:Int) ≤ 1000 ∧ (acc.length:Int) + to ≤ 1048576000
def O_app2 (o:A_app):Unit × List K2 × Int × Int × Int × Int × List Tb × Int × Int × Int × Int × Int × List V × List Tb × List Pc × Unit → Tree (Exit × St):=fun (_,ks,g,to,i,top,l,n,j,x,y,z,pl,sl,acc,_) => .leaf (.exit 2,L_app2_0.st (U_app o) ((),ks,endLeg g (tubeS ks i top to),top,l,n,j,x,y,z,pl,sl,addP acc (tubeS ks i top to),()))
def R_app2 (o:A_app):LRun:=runOf 65 L_app2 (fun x => x) (inv_app2 o) (O_app2 o)
theorem K_app2 (o:A_app):LoopOk P (Y_app o) 65 none (U_app o) C_app2 (R_app2 o):=by
  refine loop_of hm (cx:=[]) [(4,R_app4 o)] (xl:=X_app2) (α:=Unit × List K2 × Int × Int × Int × Int × List Tb × Int × Int × Int × Int × Int × List V × List Tb × List Pc × Unit) (fun x => x) (fun (_,ks,g,to,i,top,_) => (to - top).toNat) (fun _ => rfl) (by kernel_rfl) (by kernel_rfl) ?_ (by kernel_rfl) ⟨K_app4 o,trivial⟩ ?_
  · intro e S L' h
    unfold X_app2 at h
    split at h <;> first | (cases h; done) | (cases h; kernel_rfl) | (rcases bif_some h with h | h <;> cases h <;> kernel_rfl)
  · rintro ⟨⟨⟩,ks,g,to,i,top,l,n,j,x,y,z,pl,sl,acc,⟨⟩⟩ hinv Q hQ
    refine hold_of_eq (B_app2 o ks g to i top l n j x y z pl sl acc) ?_
    obtain ⟨L,hd,h0,h1,h2,h3,h4,h5,h6⟩:=hinv
    unfold O_app2 at hQ
    dsimp only at hQ
    have hk:∀ e:Int,(ks.getD e.toNat (0,0)).1 = knotA ks e:=fun _ => rfl
    rw [hk]
    refine ⟨fun c1 => ?_,fun c1 => ?_⟩
    · have c1:to > top:=of_decide_eq_true c1
      obtain ⟨l1,l2,l3,l4⟩:=legOf_ok hd (show 0 < to by omega) h2
      have hm:top ≤ maxI top (knotA ks (legOf ks to)) ∧ maxI top (knotA ks (legOf ks to)) < to:=by rw [maxI_eq]; omega
      rw [tubeS_step hd i h0 c1 h2,endLeg_cons,addP_cons] at hQ
      refine ⟨⟨L,hd,by omega,h2,h4,h5⟩,⟨l1,by omega⟩,by simp only [List.length_cons,List.length_nil]; omega,⟨⟨L,hd,h0,hm.1,by omega,h3,⟨l1,l2,fun hp => legOf_mono hd hp (by omega) h2⟩,h5,by simp only [List.length_append,List.length_cons,List.length_nil]; omega⟩,?_⟩,hQ⟩
      show (maxI top (knotA ks (legOf ks to)) - top).toNat < (to - top).toNat
      omega
    · have c1:¬ to > top:=of_decide_eq_false c1
      have e:to = top:=by omega
      subst e
      rw [tubeS_nil _ _ _ (Int.le_refl _),endLeg_nil,addP_nil] at hQ
      exact hQ
def L_appl:Lay:={ slots:=[(0,.yld 990),(4,.val tKs),(5,.val tI),(6,.val tI),(21,.val tTs),(22,.val tI),(23,.val tI)],boxes:=[(1,[.val tI,.val tI,.val tI,.val tVs]),(2,[.val tTs]),(3013,[.row 95 tPc])],recs:=[(990,.ready)] }
def L_appl_0:Lay:={ slots:=[],boxes:=[(1,[.val tI,.val tI,.val tI,.val tVs]),(2,[.val tTs]),(3013,[.row 95 tPc])],recs:=[(990,.ready)] }
def X_appl:Exit → St → Option Lay
  | .exit 0,_ => some L_appl_0
  | _,_ => none
abbrev C_appl:Code:=loopC (bodyOf Tryz.f98) 0
theorem B_appl (o:A_app) (ks:List K2) (g to:Int) (l:List Tb) (n j:Int) (x y z:Int) (pl:List V) (sl:List Tb) (acc:List Pc):loopBodyA (P:=P) [] (lpOf [(2,R_app2 o)]) (Y_app o) 65 (U_app o) (inner C_appl) L_appl X_appl (α:=Unit × List K2 × Int × Int × List Tb × Int × Int × Int × Int × Int × List V × List Tb × List Pc × Unit) (fun x => x) (fun x => x) ((),ks,g,to,l,n,j,x,y,z,pl,sl,acc,()) =
  Tree.cond (decide (j < n)) (.need ((0:Int) ≤ j ∧ j < (l.length:Int)) (.need (inv_app2 o ((),ks,g,to,j,IntKind.i64.wrap (to - IntKind.i64.wrap ((List.getD l (Int.toNat j) (0,0,0,0,0,0,0,0,0)).fst * (List.getD l (Int.toNat j) (0,0,0,0,0,0,0,0,0)).snd.fst)),l,n,j,x,y,z,pl,sl,acc,())) (.leaf (Sum.inl ((),ks,endLeg g (tubeS ks j (IntKind.i64.wrap (to - IntKind.i64.wrap ((List.getD l (Int.toNat j) (0,0,0,0,0,0,0,0,0)).fst * (List.getD l (Int.toNat j) (0,0,0,0,0,0,0,0,0)).snd.fst))) to),IntKind.i64.wrap (to - IntKind.i64.wrap ((List.getD l (Int.toNat j) (0,0,0,0,0,0,0,0,0)).fst * (List.getD l (Int.toNat j) (0,0,0,0,0,0,0,0,0)).snd.fst)),l,n,IntKind.i64.wrap (j + (1:Int)),x,y,z,pl,sl,addP acc (tubeS ks j (IntKind.i64.wrap (to - IntKind.i64.wrap ((List.getD l (Int.toNat j) (0,0,0,0,0,0,0,0,0)).fst * (List.getD l (Int.toNat j) (0,0,0,0,0,0,0,0,0)).snd.fst))) to),()))))) (.leaf (Sum.inr (Exit.exit (0:Nat),Lay.st L_appl_0 (U_app o) (x,y,z,pl,sl,acc,())))):=by kernel_rfl
def inv_appl (o:A_app):Unit × List K2 × Int × Int × List Tb × Int × Int × Int × Int × Int × List V × List Tb × List Pc × Unit → Prop:=fun (_,ks,g,to,l,n,j,x,y,z,pl,sl,acc,_) => ∃ L,Down ks L ∧ n = l.length ∧ 0 ≤ j ∧ j ≤ n ∧ l.length ≤ 8 ∧ AllF l ∧ to = sumT (l.drop j.toNat) ∧ to ≤ L ∧ L ≤ 1048576000 ∧ LegAt ks to g ∧ (ks.length:Int) ≤ 1000 ∧ (acc.length:Int) + to ≤ 1048576000
def O_appl (o:A_app):Unit × List K2 × Int × Int × List Tb × Int × Int × Int × Int × Int × List V × List Tb × List Pc × Unit → Tree (Exit × St):=fun (_,ks,g,to,l,n,j,x,y,z,pl,sl,acc,_) => .leaf (.exit 0,L_appl_0.st (U_app o) (x,y,z,pl,sl,addP acc (pcsL ks j to (l.drop j.toNat)),()))
def R_appl (o:A_app):LRun:=runOf 65 L_appl (fun x => x) (inv_appl o) (O_appl o)
theorem K_appl (o:A_app):LoopOk P (Y_app o) 65 none (U_app o) C_appl (R_appl o):=by
  refine loop_of hm (cx:=[]) [(2,R_app2 o)] (xl:=X_appl) (α:=Unit × List K2 × Int × Int × List Tb × Int × Int × Int × Int × Int × List V × List Tb × List Pc × Unit) (fun x => x) (fun (_,ks,g,to,l,n,j,_) => (n - j).toNat) (fun _ => rfl) (by kernel_rfl) (by kernel_rfl) ?_ (by kernel_rfl) ⟨K_app2 o,trivial⟩ ?_
  · intro e S L' h
    unfold X_appl at h
    split at h <;> first | (cases h; done) | (cases h; kernel_rfl) | (rcases bif_some h with h | h <;> cases h <;> kernel_rfl)
  · rintro ⟨⟨⟩,ks,g,to,l,n,j,x,y,z,pl,sl,acc,⟨⟩⟩ hinv Q hQ
    refine hold_of_eq (B_appl o ks g to l n j x y z pl sl acc) ?_
    obtain ⟨L,hd,rfl,h0,h1,h2,h3,rfl,h5,h6,h7,h8,h9⟩:=hinv
    unfold O_appl at hQ
    dsimp only at hQ
    rw [W_id (n:=j + 1) (by omega) (by omega)]
    refine ⟨fun c1 => ?_,fun c1 => ?_⟩
    · have c1:j < (l.length:Int):=of_decide_eq_true c1
      have hf:=(h3 _ (mem_getD (d:=zT) h0 c1)).prod
      have hs:=sumT_step h0 c1
      have hr:=(sumT_rng (l.drop (j + 1).toNat) (h3.drop _)).1
      rw [pcsL_step h0 c1,addP_append] at hQ
      generalize sumT (l.drop j.toNat) = to at *
      generalize l.getD j.toNat zT = u at *
      rw [W_id (n:=u.1 * u.2.1) (by omega) (by omega),W_id (n:=to - u.1 * u.2.1) (by omega) (by omega)]
      have e:to - u.1 * u.2.1 = sumT (l.drop (j + 1).toNat):=by omega
      rw [e] at hQ ⊢
      have hg:=legAt_end hd j hr _ to g (Nat.le_refl _) (by omega) h5 h7
      have hlen:=tubeS_len hd j hr _ to (Nat.le_refl _) h5 (by omega)
      exact ⟨⟨h0,c1⟩,⟨L,hd,hr,by omega,h5,h6,h7,h8,h9⟩,⟨⟨L,hd,rfl,by omega,by omega,h2,h3,rfl,by omega,h6,hg,h8,by rw [addP_len]; omega⟩,by show ((l.length:Int) - (j + 1)).toNat < ((l.length:Int) - j).toNat; omega⟩,hQ⟩
    · have c1:¬ j < (l.length:Int):=of_decide_eq_false c1
      rw [drop_end c1,pcsL_nil,addP_nil] at hQ
      exact hQ
theorem G_app (x y z:Int) (pl:List V) (sl:List Tb) (acc:List Pc):rangeTree (P:=P) [c_Vert.gc,c_plength.gc] (lpOf [(0,R_appl ((),(),x,y,z,pl,sl,acc,()))]) [] 13 (usd noU (L_app0.ids ++ rowIds rowBase L_app0.shs)) 990 (rgFn C_app) (rgPs C_app).toList (rgAssign C_app) (rgBody C_app) X_app (L_app.st (usd noU (L_app0.ids ++ rowIds rowBase L_app0.shs)) ((),(),x,y,z,pl,sl,acc,())) =
  Tree.need (List.length sl ≤ (8:Nat) ∧ AllF sl) (.need (inv_appl ((),(),x,y,z,pl,sl,acc,()) ((),vertS ((x,y,z),pl),IntKind.i64.wrap ((pl.length:Int) - (1:Int)),sumT sl,sl,(sl.length:Int),(0:Int),x,y,z,pl,sl,acc,())) (.leaf (Exit.normal,Lay.st L_app_0 (usd noU (Lay.ids L_app0 ++ rowIds rowBase (Lay.shs L_app0))) ((),x,y,z,pl,sl,addP acc (pcsL (vertS ((x,y,z),pl)) (0:Int) (sumT sl) (List.drop (Int.toNat (0:Int)) sl)),())))):=by kernel_rfl
def inv_app:Unit × Unit × Int × Int × Int × List V × List Tb × List Pc × Unit → Prop:=fun (_,_,x,y,z,pl,sl,acc,_) => fitsS sl ((x,y,z),pl) = 0 ∧ acc = []
def O_app:Unit × Unit × Int × Int × Int × List V × List Tb × List Pc × Unit → Tree (Exit × St):=fun (_,_,x,y,z,pl,sl,acc,_) => .leaf (.normal,L_app_0.st (usd noU (L_app0.ids ++ rowIds rowBase L_app0.shs)) ((),x,y,z,pl,sl,pcsS sl ((x,y,z),pl),()))
def R_app:LRun:=runOf 13 L_app (fun x => x) (inv_app) (O_app)
theorem H_app (x y z:Int) (pl:List V) (sl:List Tb) (acc:List Pc) (hinv:inv_app ((),(),x,y,z,pl,sl,acc,())) (Q:Exit × St → Prop) (hQ:(O_app ((),(),x,y,z,pl,sl,acc,())).holds Q):Hold Q (rangeTree (P:=P) [c_Vert.gc,c_plength.gc] (lpOf [(0,R_appl ((),(),x,y,z,pl,sl,acc,()))]) [] 13 (usd noU (L_app0.ids ++ rowIds rowBase L_app0.shs)) 990 (rgFn C_app) (rgPs C_app).toList (rgAssign C_app) (rgBody C_app) X_app (L_app.st (usd noU (L_app0.ids ++ rowIds rowBase L_app0.shs)) ((),(),x,y,z,pl,sl,acc,()))):=by
    have e:=G_app x y z pl sl acc
    generalize rangeTree (P:=P) [c_Vert.gc,c_plength.gc] (lpOf [(0,R_appl ((),(),x,y,z,pl,sl,acc,()))]) [] 13 (usd noU (L_app0.ids ++ rowIds rowBase L_app0.shs)) 990 (rgFn C_app) (rgPs C_app).toList (rgAssign C_app) (rgBody C_app) X_app (L_app.st (usd noU (L_app0.ids ++ rowIds rowBase L_app0.shs)) ((),(),x,y,z,pl,sl,acc,())) = t at e ⊢
    subst e
    constructor
    obtain ⟨hf,rfl⟩ : fitsS sl ((x,y,z),pl) = 0 ∧ acc = []:=hinv
    obtain ⟨f1,f2,f3⟩:=fitsS_ok hf
    obtain ⟨_,g2,g3,g4⟩:=checkT_ok f1
    have hd:=fits_down hf
    have hlen:=checkS_len f2
    have hne:=fits_legs hf
    have hpos:0 < pl.length:=List.length_pos_iff.2 hne
    have hkl:=knots_length (x,y,z) pl
    have hL:lenS ((x,y,z),pl) ≤ 1048576000:=lenS_le _
    dsimp only at hd hlen hkl
    have hv:vertS ((x,y,z),pl) = knots (x,y,z) pl:=vertS_fits hf
    rw [hv,W_id (n:=(pl.length:Int) - 1) (by omega) (by omega)]
    unfold O_app at hQ
    dsimp only at hQ
    unfold pcsS at hQ
    rw [if_pos hf] at hQ
    have hs:=(sumT_rng sl g3).1
    refine ⟨⟨g2,g3⟩,⟨lenS ((x,y,z),pl),hd,rfl,by decide,by omega,g2,g3,rfl,f3,hL,⟨by omega,by omega,fun hp => ?_⟩,by omega,by show (0:Int) + sumT sl ≤ 1048576000; omega⟩,?_⟩
    · have:=(legOf_ok hd hp f3).2.1
      omega
    · exact hQ
theorem J_app (a:A_app):AllK P (Y_app a) 65 none (U_app a) (bodyOf Tryz.f98) [(0,R_appl a)]:=⟨K_appl a,trivial⟩
theorem K_app:LoopOk P [] 13 none (usd noU (L_app0.ids ++ rowIds rowBase L_app0.shs)) C_app (R_app):=by
  refine range_of hm (cx:=[c_Vert.gc,c_plength.gc]) (xl:=X_app) (α:=Unit × Unit × Int × Int × Int × List V × List Tb × List Pc × Unit) (fun x => x) 990 (gf:=98) (fnI:=Tryz.f98) (fun a => [(0,R_appl a)]) (fun _ => rfl) (by kernel_rfl) (by kernel_rfl) ?_ (by kernel_rfl) (fun a => ⟨encK [(1,0),(2,0)],by kernel_rfl⟩) (by kernel_rfl) ?_ ?_
  · intro e S L' h
    unfold X_app at h
    split at h <;> first | (cases h; done) | (cases h; kernel_rfl) | (rcases bif_some h with h | h <;> cases h <;> kernel_rfl)
  · intro a; exact J_app a
  · have tup:∀ Pr:Unit × Unit × Int × Int × Int × List V × List Tb × List Pc × Unit → Prop,(∀ (x y z:Int) (pl:List V) (sl:List Tb) (acc:List Pc),Pr ((),(),x,y,z,pl,sl,acc,())) → ∀ a,Pr a:=fun Pr h a => h (a.2.2.1) (a.2.2.2.1) (a.2.2.2.2.1) (a.2.2.2.2.2.1) (a.2.2.2.2.2.2.1) (a.2.2.2.2.2.2.2.1)
    refine tup _ ?_
    intro x y z pl sl acc hinv Q hQ
    exact H_app x y z pl sl acc hinv Q hQ
def L_AppSeq:Lay:={ slots:=[(0,.nils),(1,.clo 98 [(1,0),(2,0)])],boxes:=[(1,[.val tI,.val tI,.val tI,.val tVs]),(2,[.val tTs])] }
theorem T_AppSeq (x y z:Int) (pl:List V) (sl:List Tb):mTree (P:=P) [] (lpOf [(0,R_app)]) Tryz.f97 L_AppSeq true ((),(),x,y,z,pl,sl,()) =
  Tree.need (inv_app ((),(),x,y,z,pl,sl,[],())) (.leaf { res:=SV.own (nat_lit 100),boxes:=[[SV.int IntKind.i64 x,SV.int IntKind.i64 y,SV.int IntKind.i64 z,SV.sl tV pl],[SV.sl tT sl]],news:=[Ob.row (95:TypeId) tPc (pcsS sl ((x,y,z),pl))] }):=by kernel_rfl
def c_AppSeq:MC P:=MC.of (α:=Unit × Unit × Int × Int × Int × List V × List Tb × Unit) 97 L_AppSeq (fun x => x) (fun x => x) (fun _ => rfl)
  (fun (_,_,x,y,z,pl,sl,_) => some (fitsS sl ((x,y,z),pl) = 0))
  (fun (_,_,x,y,z,pl,sl,_) => ⟨.own 100,[[.int .i64 x,.int .i64 y,.int .i64 z,.sl tV pl],[.sl tT sl]],[.row 95 tPc (pcsS sl ((x,y,z),pl))]⟩) (by kernel_rfl) (by kernel_rfl) (by kernel_rfl) (by
    rintro ⟨⟨⟩,⟨⟩,x,y,z,pl,sl,⟨⟩⟩ hp
    refine m_of hm (own:=true) (by kernel_rfl) (by kernel_rfl) (by kernel_rfl) (T_AppSeq x y z pl sl) ⟨K_app,trivial⟩ ?_
    exact ⟨⟨hp,rfl⟩,rfl⟩)
def L_Collect:Lay:={ slots:=[(0,.clo 98 [(1,0),(2,0)])],boxes:=[(1,[.val tI,.val tI,.val tI,.val tVs]),(2,[.val tTs])] }
theorem T_Collect (x y z:Int) (pl:List V) (sl:List Tb):mTree (P:=P) [c_AppSeq.gc] (lpOf []) Tryz.f78 L_Collect true ((),x,y,z,pl,sl,()) =
  Tree.need (fitsS sl ((x,y,z),pl) = (0:Int)) (.leaf { res:=SV.own (nat_lit 100),boxes:=[[SV.int IntKind.i64 x,SV.int IntKind.i64 y,SV.int IntKind.i64 z,SV.sl tV pl],[SV.sl tT sl]],news:=[Ob.row (95:TypeId) tPc (pcsS sl ((x,y,z),pl))] }):=by kernel_rfl
def c_Collect:MC P:=MC.of (α:=Unit × Int × Int × Int × List V × List Tb × Unit) 78 L_Collect (fun x => x) (fun x => x) (fun _ => rfl)
  (fun (_,x,y,z,pl,sl,_) => some (fitsS sl ((x,y,z),pl) = 0))
  (fun (_,x,y,z,pl,sl,_) => ⟨.own 100,[[.int .i64 x,.int .i64 y,.int .i64 z,.sl tV pl],[.sl tT sl]],[.row 95 tPc (pcsS sl ((x,y,z),pl))]⟩) (by kernel_rfl) (by kernel_rfl) (by kernel_rfl) (by
    rintro ⟨⟨⟩,x,y,z,pl,sl,⟨⟩⟩ hp
    refine m_of hm (own:=true) (by kernel_rfl) (by kernel_rfl) (by kernel_rfl) (T_Collect x y z pl sl) trivial ?_
    exact ⟨hp,rfl⟩)
theorem T_Pieces (l_0:List Tb) (p_0 p_1 p_2:Int) (p_3:List V):fnTree (P:=P) [c_Fits.gc,c_pieces.gc,c_Collect.gc] (lpOf []) Tryz.f47 (encL 0 [.agg tTs,.agg (.pair tV tVs)] (l_0,((p_0,(p_1,p_2)),p_3),())) =
  Tree.need ((l_0.length:Int) < (2:Int) ^ (62:Nat)) (.cond (fitsS l_0 ((p_0,p_1,p_2),p_3) != (0:Int)) (.leaf SV.nils) (.need (fitsS l_0 ((p_0,p_1,p_2),p_3) = (0:Int)) (.leaf (SV.sl (Ty.pair tI (Ty.pair tI (Ty.pair tI tI))) (pcsS l_0 ((p_0,p_1,p_2),p_3)))))):=by kernel_rfl
def c_Pieces:PC P:=PC.of (α:=List Tb × (V × List V) × Unit) 47 [.agg tTs,.agg (.pair tV tVs)] (fun x => x) (fun x => x) (fun _ => rfl)
  (fun x => some ((x.1.length:Int) < 2 ^ 62))
  (fun x => .sl tPc (pcsS x.1 x.2.1)) (by kernel_rfl) (by
    rintro ⟨l_0,⟨⟨p_0,⟨p_1,p_2⟩⟩,p_3⟩,⟨⟩⟩ hp
    refine fn_le hm (by kernel_rfl) (by kernel_rfl) (T_Pieces l_0 p_0 p_1 p_2 p_3) trivial (by kernel_rfl) ?_
    try dsimp only at hp
    try dsimp only
    show Tree.holds (fun s => LeS s (SV.sl tPc (pcsS l_0 ((p_0,p_1,p_2),p_3)))) _
    have h62:(l_0.length:Int) < 2 ^ 62:=hp
    refine ⟨h62,fun c1 => ?_,fun c1 => ⟨?_,?_⟩⟩
    · unfold pcsS
      rw [if_neg (by simpa using c1)]
      exact rfl
    · simpa using c1
    · exact rfl)
def L_rPcs4:Lay:={ slots:=[(2,.ptr 3073 0),(5,.val (.sl tPart)),(6,.row 95 (.pair tI tV)),(7,.val tI),(8,.val tI),(9,.val tI),(10,.val tI)],boxes:=[(3073,[.val tTs])] }
def L_rPcs4_0:Lay:={ slots:=[(2,.ptr 3073 0),(5,.val (.sl tPart)),(6,.row 95 (.pair tI tV)),(7,.val tI),(8,.val tI),(9,.val tI),(10,.val tI)],boxes:=[(3073,[.val tTs])] }
def X_rPcs4:Exit → St → Option Lay
  | .exit 4,_ => some L_rPcs4_0
  | _,_ => none
abbrev C_rPcs4:Code:=loopC (inner (loopC (inner (loopC (bodyOf Tryz.f48) 0)) 2)) 4
theorem B_rPcs4 (ks:List (Int × Int)) (acc:List (Int × V)) (to i top g:Int) (l_0:List Tb):loopBodyA (P:=P) [] (lpOf []) [] 73 noU (inner C_rPcs4) L_rPcs4 X_rPcs4 (α:=Unit × List (Int × Int) × List (Int × V) × Int × Int × Int × Int × List Tb × Unit) (fun x => x) (fun x => x) ((),ks,acc,to,i,top,g,l_0,()) =
  Tree.need ((0:Int) ≤ IntKind.i64.wrap (g + (1:Int)) ∧ IntKind.i64.wrap (g + (1:Int)) < (ks.length:Int)) (.cond (decide ((List.getD ks (Int.toNat (IntKind.i64.wrap (g + (1:Int)))) (0,0)).fst < to)) (.leaf (Sum.inl ((),ks,acc,to,i,top,IntKind.i64.wrap (g + (1:Int)),l_0,()))) (.leaf (Sum.inr (Exit.exit (4:Nat),Lay.st L_rPcs4_0 noU ((),ks,acc,to,i,top,g,l_0,()))))):=by kernel_rfl
def inv_rPcs4:Unit × List (Int × Int) × List (Int × V) × Int × Int × Int × Int × List Tb × Unit → Prop:=fun ((),ks,acc,to,i,top,g,l_0,()) => ∃ L,Down ks L ∧ 0 < to ∧ to ≤ L ∧ 0 ≤ g ∧ g ≤ legOf ks to ∧ (ks.length:Int) ≤ 1000
def O_rPcs4:Unit × List (Int × Int) × List (Int × V) × Int × Int × Int × Int × List Tb × Unit → Tree (Exit × St):=fun ((),ks,acc,to,i,top,g,l_0,()) => (.leaf (.exit 4,L_rPcs4_0.st noU ((),ks,acc,to,i,top,(legOf ks to),l_0,())))
def R_rPcs4:LRun:=runOf 73 L_rPcs4 (fun x => x) (inv_rPcs4) (O_rPcs4)
theorem K_rPcs4:LoopOk P [] 73 none noU C_rPcs4 (R_rPcs4):=by
  refine loop_of hm (cx:=[]) [] (xl:=X_rPcs4) (α:=Unit × List (Int × Int) × List (Int × V) × Int × Int × Int × Int × List Tb × Unit) (fun x => x) (fun ((),ks,acc,to,i,top,g,l_0,()) => (legOf ks to - g).toNat) (fun _ => rfl) (by kernel_rfl) (by kernel_rfl) ?_ (by kernel_rfl) trivial ?_
  · intro e S L' h
    unfold X_rPcs4 at h
    split at h <;> first | (cases h; done) | (cases h; kernel_rfl) | (rcases bif_some h with h | h <;> cases h <;> kernel_rfl)
  · rintro ⟨⟨⟩,ks,acc,to,i,top,g,l_0,⟨⟩⟩ hinv Q hQ
    refine hold_of_eq (B_rPcs4 ks acc to i top g l_0) ?_
    obtain ⟨L,hd,h0,h1,h2,h3,h4⟩:=hinv
    obtain ⟨l1,l2,l3,l4⟩:=legOf_ok hd h0 h1
    unfold O_rPcs4 at hQ
    dsimp only at hQ
    rw [W_id (n:=g + 1) (by omega) (by omega)]
    refine ⟨⟨by omega,by omega⟩,fun c1 => ?_,fun c1 => ?_⟩
    · have c1:knotA ks (g + 1) < to:=of_decide_eq_true c1
      have hlt:g < legOf ks to:=by
        rcases Int.lt_or_le g (legOf ks to) with e | e
        · exact e
        · have:legOf ks to = g:=by omega
          rw [this] at l4; omega
      exact ⟨⟨⟨L,hd,h0,h1,by omega,by omega,h4⟩,by show (legOf ks to - (g + 1)).toNat < (legOf ks to - g).toNat; omega⟩,hQ⟩
    · have c1:¬ knotA ks (g + 1) < to:=of_decide_eq_false c1
      have e:legOf ks to = g:=by
        rcases Int.lt_or_le g (legOf ks to) with e | e
        · have:=hd.asc (g + 1) (legOf ks to) (by omega) (by omega) (by omega)
          omega
        · omega
      rw [e] at hQ
      exact hQ
def L_rPcs2:Lay:={ slots:=[(2,.ptr 3073 0),(5,.val (.sl tPart)),(6,.row 95 (.pair tI tV)),(7,.val tI),(8,.val tI),(9,.val tI)],boxes:=[(3073,[.val tTs])] }
def L_rPcs2_0:Lay:={ slots:=[(2,.ptr 3073 0),(5,.val (.sl tPart)),(6,.row 95 (.pair tI tV)),(7,.val tI),(8,.val tI)],boxes:=[(3073,[.val tTs])] }
def X_rPcs2:Exit → St → Option Lay
  | .exit 2,_ => some L_rPcs2_0
  | _,_ => none
abbrev C_rPcs2:Code:=loopC (inner (loopC (bodyOf Tryz.f48) 0)) 2
theorem B_rPcs2 (ks:List (Int × Int)) (acc:List (Int × V)) (to i top:Int) (l_0:List Tb):loopBodyA (P:=P) [] (lpOf [(4,R_rPcs4)]) [] 73 noU (inner C_rPcs2) L_rPcs2 X_rPcs2 (α:=Unit × List (Int × Int) × List (Int × V) × Int × Int × Int × List Tb × Unit) (fun x => x) (fun x => x) ((),ks,acc,to,i,top,l_0,()) =
  Tree.cond (decide (to > top)) (.need (inv_rPcs4 ((),ks,acc,to,i,top,(0:Int),l_0,())) (.need ((0:Int) ≤ legOf ks to ∧ legOf ks to < (ks.length:Int)) (.need ((List.length acc + List.length [(i,legOf ks to,maxI top (List.getD ks (Int.toNat (legOf ks to)) (0,0)).fst,to)]) * (32:Nat) ≤ (140737488355328:Nat)) (.leaf (Sum.inl ((),ks,acc ++ [(i,legOf ks to,maxI top (List.getD ks (Int.toNat (legOf ks to)) (0,0)).fst,to)],maxI top (List.getD ks (Int.toNat (legOf ks to)) (0,0)).fst,i,top,l_0,())))))) (.leaf (Sum.inr (Exit.exit (2:Nat),Lay.st L_rPcs2_0 noU ((),ks,acc,to,i,l_0,())))):=by kernel_rfl
def inv_rPcs2:Unit × List (Int × Int) × List (Int × V) × Int × Int × Int × List Tb × Unit → Prop:=fun ((),ks,acc,to,i,top,l_0,()) => ∃ L,Down ks L ∧ 0 ≤ top ∧ top ≤ to ∧ to ≤ L ∧ L ≤ 1048576000 ∧ (ks.length:Int) ≤ 1000 ∧ (acc.length:Int) + to ≤ 1048576000
def O_rPcs2:Unit × List (Int × Int) × List (Int × V) × Int × Int × Int × List Tb × Unit → Tree (Exit × St):=fun ((),ks,acc,to,i,top,l_0,()) => (.leaf (.exit 2,L_rPcs2_0.st noU ((),ks,(addP acc (tubeS ks i top to)),(top),i,l_0,())))
def R_rPcs2:LRun:=runOf 73 L_rPcs2 (fun x => x) (inv_rPcs2) (O_rPcs2)
theorem K_rPcs2:LoopOk P [] 73 none noU C_rPcs2 (R_rPcs2):=by
  refine loop_of hm (cx:=[]) [(4,R_rPcs4)] (xl:=X_rPcs2) (α:=Unit × List (Int × Int) × List (Int × V) × Int × Int × Int × List Tb × Unit) (fun x => x) (fun ((),ks,acc,to,i,top,l_0,()) => (to - top).toNat) (fun _ => rfl) (by kernel_rfl) (by kernel_rfl) ?_ (by kernel_rfl) ⟨K_rPcs4,trivial⟩ ?_
  · intro e S L' h
    unfold X_rPcs2 at h
    split at h <;> first | (cases h; done) | (cases h; kernel_rfl) | (rcases bif_some h with h | h <;> cases h <;> kernel_rfl)
  · rintro ⟨⟨⟩,ks,acc,to,i,top,l_0,⟨⟩⟩ hinv Q hQ
    refine hold_of_eq (B_rPcs2 ks acc to i top l_0) ?_
    obtain ⟨L,hd,h0,h1,h2,h3,h5,h6⟩:=hinv
    unfold O_rPcs2 at hQ
    dsimp only at hQ
    have hk:∀ e:Int,(ks.getD e.toNat (0,0)).1 = knotA ks e:=fun _ => rfl
    rw [hk]
    refine ⟨fun c1 => ?_,fun c1 => ?_⟩
    · have c1:to > top:=of_decide_eq_true c1
      obtain ⟨l1,l2,l3,l4⟩:=legOf_ok hd (show 0 < to by omega) h2
      have hm:top ≤ maxI top (knotA ks (legOf ks to)) ∧ maxI top (knotA ks (legOf ks to)) < to:=by rw [maxI_eq]; omega
      rw [tubeS_step hd i h0 c1 h2,addP_cons] at hQ
      refine ⟨⟨L,hd,by omega,h2,by omega,l1,h5⟩,⟨l1,by omega⟩,by simp only [List.length_cons,List.length_nil]; omega,⟨⟨L,hd,h0,hm.1,by omega,h3,h5,by simp only [List.length_append,List.length_cons,List.length_nil]; omega⟩,?_⟩,hQ⟩
      show (maxI top (knotA ks (legOf ks to)) - top).toNat < (to - top).toNat
      omega
    · have c1:¬ to > top:=of_decide_eq_false c1
      have e:to = top:=by omega
      subst e
      rw [tubeS_nil _ _ _ (Int.le_refl _),addP_nil] at hQ
      exact hQ
def L_rPcs0:Lay:={ slots:=[(2,.ptr 3073 0),(5,.val (.sl tPart)),(6,.row 95 (.pair tI tV)),(7,.val tI),(8,.val tI)],boxes:=[(3073,[.val tTs])] }
def L_rPcs0_0:Lay:={ slots:=[(6,.row 95 (.pair tI tV))] }
def X_rPcs0:Exit → St → Option Lay
  | .exit 0,_ => some L_rPcs0_0
  | _,_ => none
abbrev C_rPcs0:Code:=loopC (bodyOf Tryz.f48) 0
theorem B_rPcs0 (ks:List (Int × Int)) (acc:List (Int × V)) (to i:Int) (l_0:List Tb):loopBodyA (P:=P) [] (lpOf [(2,R_rPcs2)]) [] 73 noU (inner C_rPcs0) L_rPcs0 X_rPcs0 (α:=Unit × List (Int × Int) × List (Int × V) × Int × Int × List Tb × Unit) (fun x => x) (fun x => x) ((),ks,acc,to,i,l_0,()) =
  Tree.cond (decide (i < (l_0.length:Int))) (.need ((0:Int) ≤ i ∧ i < (l_0.length:Int)) (.need ((0:Int) ≤ i ∧ i < (l_0.length:Int)) (.need (inv_rPcs2 ((),ks,acc,to,i,IntKind.i64.wrap (to - IntKind.i64.wrap ((List.getD l_0 (Int.toNat i) (0,0,0,0,0,0,0,0,0)).fst * (List.getD l_0 (Int.toNat i) (0,0,0,0,0,0,0,0,0)).snd.fst)),l_0,())) (.leaf (Sum.inl ((),ks,addP acc (tubeS ks i (IntKind.i64.wrap (to - IntKind.i64.wrap ((List.getD l_0 (Int.toNat i) (0,0,0,0,0,0,0,0,0)).fst * (List.getD l_0 (Int.toNat i) (0,0,0,0,0,0,0,0,0)).snd.fst))) to),IntKind.i64.wrap (to - IntKind.i64.wrap ((List.getD l_0 (Int.toNat i) (0,0,0,0,0,0,0,0,0)).fst * (List.getD l_0 (Int.toNat i) (0,0,0,0,0,0,0,0,0)).snd.fst)),IntKind.i64.wrap (i + (1:Int)),l_0,())))))) (.leaf (Sum.inr (Exit.exit (0:Nat),Lay.st L_rPcs0_0 noU (acc,())))):=by kernel_rfl
def inv_rPcs0:Unit × List (Int × Int) × List (Int × V) × Int × Int × List Tb × Unit → Prop:=fun ((),ks,acc,to,i,l_0,()) => ∃ L,Down ks L ∧ 0 ≤ i ∧ i ≤ l_0.length ∧ l_0.length ≤ 8 ∧ AllF l_0 ∧ to = sumT (l_0.drop i.toNat) ∧ to ≤ L ∧ L ≤ 1048576000 ∧ (ks.length:Int) ≤ 1000 ∧ (acc.length:Int) + to ≤ 1048576000
def O_rPcs0:Unit × List (Int × Int) × List (Int × V) × Int × Int × List Tb × Unit → Tree (Exit × St):=fun ((),ks,acc,to,i,l_0,()) => (.leaf (.exit 0,L_rPcs0_0.st noU ((addP acc (pcsL ks i to (l_0.drop i.toNat))),())))
def R_rPcs0:LRun:=runOf 73 L_rPcs0 (fun x => x) (inv_rPcs0) (O_rPcs0)
theorem K_rPcs0:LoopOk P [] 73 none noU C_rPcs0 (R_rPcs0):=by
  refine loop_of hm (cx:=[]) [(2,R_rPcs2)] (xl:=X_rPcs0) (α:=Unit × List (Int × Int) × List (Int × V) × Int × Int × List Tb × Unit) (fun x => x) (fun ((),ks,acc,to,i,l_0,()) => (l_0.length - i).toNat) (fun _ => rfl) (by kernel_rfl) (by kernel_rfl) ?_ (by kernel_rfl) ⟨K_rPcs2,trivial⟩ ?_
  · intro e S L' h
    unfold X_rPcs0 at h
    split at h <;> first | (cases h; done) | (cases h; kernel_rfl) | (rcases bif_some h with h | h <;> cases h <;> kernel_rfl)
  · rintro ⟨⟨⟩,ks,acc,to,i,l_0,⟨⟩⟩ hinv Q hQ
    refine hold_of_eq (B_rPcs0 ks acc to i l_0) ?_
    obtain ⟨L,hd,h0,h1,h2,h3,rfl,h5,h6,h8,h9⟩:=hinv
    unfold O_rPcs0 at hQ
    dsimp only at hQ
    rw [W_id (n:=i + 1) (by omega) (by omega)]
    refine ⟨fun c1 => ?_,fun c1 => ?_⟩
    · have c1:i < (l_0.length:Int):=of_decide_eq_true c1
      have hf:=(h3 _ (mem_getD (d:=zT) h0 c1)).prod
      have hs:=sumT_step h0 c1
      have hr:=(sumT_rng (l_0.drop (i + 1).toNat) (h3.drop _)).1
      rw [pcsL_step h0 c1,addP_append] at hQ
      generalize sumT (l_0.drop i.toNat) = to at *
      generalize l_0.getD i.toNat zT = u at *
      rw [W_id (n:=u.1 * u.2.1) (by omega) (by omega),W_id (n:=to - u.1 * u.2.1) (by omega) (by omega)]
      have e:to - u.1 * u.2.1 = sumT (l_0.drop (i + 1).toNat):=by omega
      rw [e] at hQ ⊢
      have hlen:=tubeS_len hd i hr _ to (Nat.le_refl _) h5 (by omega)
      exact ⟨⟨h0,c1⟩,⟨h0,c1⟩,⟨L,hd,hr,by omega,h5,h6,h8,h9⟩,⟨⟨L,hd,by omega,by omega,h2,h3,rfl,by omega,h6,h8,by rw [addP_len]; omega⟩,by show ((l_0.length:Int) - (i + 1)).toNat < ((l_0.length:Int) - i).toNat; omega⟩,hQ⟩
    · have c1:¬ i < (l_0.length:Int):=of_decide_eq_false c1
      rw [drop_end c1,pcsL_nil,addP_nil] at hQ
      exact hQ
theorem T_rPieces (l_0:List Tb) (p_0 p_1 p_2:Int) (p_3:List V):fnTree (P:=P) [c_rFits.gc,c_rVert.gc,c_rlength.gc] (lpOf [(0,R_rPcs0)]) Tryz.f48 (encL 0 [.agg tTs,.agg (.pair tV tVs)] (l_0,((p_0,(p_1,p_2)),p_3),())) =
  Tree.cond (fitsS l_0 ((p_0,p_1,p_2),p_3) != (0:Int)) (.leaf SV.nils) (.need (List.length l_0 ≤ (8:Nat) ∧ AllF l_0) (.need (inv_rPcs0 ((),vertS ((p_0,p_1,p_2),p_3),[],sumT l_0,(0:Int),l_0,())) (.leaf (SV.sl (Ty.pair tI tV) (addP [] (pcsL (vertS ((p_0,p_1,p_2),p_3)) (0:Int) (sumT l_0) (List.drop (Int.toNat (0:Int)) l_0))))))):=by kernel_rfl
def c_rPieces:PC P:=PC.of (α:=List Tb × (V × List V) × Unit) 48 [.agg tTs,.agg (.pair tV tVs)] (fun x => x) (fun x => x) (fun _ => rfl)
  (fun _ => none)
  (fun x => .sl tPc (pcsS x.1 x.2.1)) (by kernel_rfl) (by
    rintro ⟨l_0,⟨⟨p_0,⟨p_1,p_2⟩⟩,p_3⟩,⟨⟩⟩ hp
    refine fn_le hm (by kernel_rfl) (by kernel_rfl) (T_rPieces l_0 p_0 p_1 p_2 p_3) ⟨K_rPcs0,trivial⟩ (by kernel_rfl) ?_
    try dsimp only at hp
    try dsimp only
    show Tree.holds (fun s => LeS s (SV.sl tPc (pcsS l_0 ((p_0,p_1,p_2),p_3)))) _
    refine ⟨fun c1 => ?_,fun c1 => ⟨?_,⟨?_,?_⟩⟩⟩
    · unfold pcsS
      rw [if_neg (by simpa using c1)]
      exact rfl
    all_goals
      have hf:fitsS l_0 ((p_0,p_1,p_2),p_3) = 0:=by simpa using c1
      obtain ⟨f1,f2,f3⟩:=fitsS_ok hf
      obtain ⟨_,g2,g3,g4⟩:=checkT_ok f1
      have hd:=fits_down hf
      have hlen:=checkS_len f2
      have hkl:=knots_length (p_0,p_1,p_2) p_3
      have hL:lenS ((p_0,p_1,p_2),p_3) ≤ 1048576000:=lenS_le _
      dsimp only at hd hlen hkl
      have hv:vertS ((p_0,p_1,p_2),p_3) = knots (p_0,p_1,p_2) p_3:=vertS_fits hf
    · exact ⟨g2,g3⟩
    · rw [hv]
      exact ⟨_,hd,by decide,by omega,g2,g3,rfl,f3,hL,by omega,by show (0:Int) + sumT l_0 ≤ 1048576000; omega⟩
    · rw [hv]
      unfold pcsS
      rw [if_pos hf]
      exact rfl)
end
end Go.MP
