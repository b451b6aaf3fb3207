/- The reference's loads. -/
import Derived.Test.YtoockflaeaknbaaGreatMtA
import Derived.Test.YtoockflaeaknbaaGreatMvS
namespace Go.MP
open Go Go.Sx Go.Proofs
set_option linter.unusedVariables false
set_option linter.unusedSimpArgs false
noncomputable section
theorem tubeP_leg {ks:List K2} {L:Int} (hd:Down ks L) {i top:Int} (h0:0 ≤ top):∀ (n:Nat) (to:Int),to ≤ L → ∀ q ∈ tubeP ks i top n to,0 ≤ q.2.1 ∧ q.2.1 + 1 < ks.length:=by
  intro n
  induction n with
  | zero => intro to _ q hq; cases hq
  | succ n ih =>
    intro to hL q hq
    rw [tubeP] at hq
    split at hq
    · cases hq
    · rename_i hn
      obtain ⟨l1,l2,l3,l4⟩:=legOf_ok hd (show 0 < to by omega) hL
      rcases List.mem_cons.1 hq with h | h
      · rw [h]; exact ⟨l1,l2⟩
      · exact ih _ (by rw [maxI_eq]; omega) q h
theorem pcsL_leg {ks:List K2} {L:Int} (hd:Down ks L) (l:List Tb):AllF l → ∀ i to:Int,to = sumT l → to ≤ L → ∀ q ∈ pcsL ks i to l,0 ≤ q.2.1 ∧ q.2.1 + 1 < ks.length:=by
  induction l with
  | nil => intro _ i to _ _ q hq; rw [pcsL] at hq; cases hq
  | cons t r ih =>
    intro h i to h1 h2 q hq
    have hp:=(h t (by simp)).prod
    have hr:=(sumT_rng r fun u hu => h u (by simp [hu])).1
    rw [sumT] at h1
    rw [pcsL] at hq
    rcases List.mem_append.1 hq with hq | hq
    · exact tubeP_leg hd (show 0 ≤ to - t.1 * t.2.1 by omega) _ to h2 q hq
    · exact ih (fun u hu => h u (by simp [hu])) (i + 1) (to - t.1 * t.2.1) (by omega) (by omega) q hq
theorem pcsS_leg {l:List Tb} {p:Pth} (hf:fitsS l p = 0) {q:Pc} (h:q ∈ pcsS l p):0 ≤ q.2.1 ∧ q.2.1 < p.2.length:=by
  obtain ⟨f1,f2,f3⟩:=fitsS_ok hf
  obtain ⟨_,_,g3,_⟩:=checkT_ok f1
  have hk:=knots_length p.1 p.2
  unfold pcsS at h
  rw [if_pos hf] at h
  have:=pcsL_leg (fits_down hf) l g3 0 (sumT l) rfl f3 q h
  omega
def blw (m:List Pc) (i:Int):Int:=if i = 0 then -1 else (m.getD (i - 1).toNat (0,0,0,0)).2.1
theorem chain_at {l:List Tb} {p:Pth}:∀ (m:List Pc) (b:Int) (k:Nat),k ≤ m.length → Chain l p b m → Chain l p (if k = 0 then b else (m.getD (k - 1) (0,0,0,0)).2.1) (m.drop k)
  | m,b,0,_,h => h
  | [],b,k + 1,hk,h => by simp at hk
  | q :: r,b,k + 1,hk,h => by
    rw [if_neg (by omega)]
    cases h with
    | cons _ _ _ hb hl ht hm hw hg hr =>
      have:=chain_at r q.2.1 k (by simpa using hk) hr
      rw [List.drop_succ_cons]
      cases k with
      | zero => exact this
      | succ k =>
        rw [if_neg (by omega)] at this
        exact this
theorem chain_blw {l:List Tb} {p:Pth} {m:List Pc} (h:Chain l p (-1) m) {i:Int} (h0:0 ≤ i) (h1:i ≤ m.length):Chain l p (blw m i) (m.drop i.toNat):=by
  have:=chain_at m (-1) i.toNat (by omega) h
  unfold blw
  by_cases c:i = 0
  · subst c; exact this
  · rw [if_neg c]
    rw [if_neg (by omega),show i.toNat - 1 = (i - 1).toNat by omega] at this
    exact this
def L_rld:Lay:={ slots:=[(3,.ptr 4176 0),(4,.ptr 5176 0),(5,.ptr 6176 0),(9,.val (.sl (.pair tI tV))),(10,.ptr 11176 0),(11,.row 67 (.pair tI (.pair tPart tPart))),(12,.row 31 tPart),(13,.val tI)],boxes:=[(4176,[.val tTs]),(5176,[.val tI,.val tI,.val tI,.val tVs]),(6176,[.val tI,.val tI,.val tI,.val tI,.val tI]),(11176,[.val tI,.val tI,.val tI,.val tI,.val tI])] }
def L_rld_0:Lay:={ slots:=[(6,.val (.sl (.pair tI (.pair tPart tPart)))),(7,.val (.sl tPart)),(8,.val .bool)] }
def L_rld_1:Lay:={ slots:=[(11,.row 67 (.pair tI (.pair tPart tPart))),(12,.row 31 tPart)] }
def X_rld:Exit → St → Option Lay
  | .ret,_ => some L_rld_0
  | .exit 0,_ => some L_rld_1
  | _,_ => none
abbrev C_rld:Code:=loopC (bodyOf Tryz.f38) 0
theorem B_rld (m:List (Int × V)) (A:List (Int × ((Int × Int) × (Int × Int)))) (B:List (Int × Int)) (i:Int) (l:List Tb) (p0 p1 p2:Int) (ps:List V) (c0 c1 c2 c3 c4 x0 x1 x2 x3 x4:Int) (x5_:Nat) (hx5_:x5_ = (Int.toNat (List.getD m (Int.toNat i) (0,0,0,0)).fst)) (x6_:Nat) (hx6_:x6_ = (Int.toNat (List.getD m (Int.toNat i) (0,0,0,0)).snd.fst)) (x1_:Int × Bool) (hx1_:x1_ = (rootS (vdot (List.getD ps x6_ (0,0,0)) (List.getD ps x6_ (0,0,0))))) (x3_:Int × Int × Int × Int) (hx3_:x3_ = (bentS c0 (c2,c3) (bendV (List.getD ps x6_ (0,0,0)) (List.getD ps (Int.toNat (List.getD m (Int.toNat (IntKind.i64.wrap (i - (1:Int)))) ((0:Int),(0:Int),(0:Int),(0:Int))).snd.fst) (0,0,0))) (List.getD l x5_ (0,0,0,0,0,0,0,0,0)).snd.snd.snd.snd.fst (hgH (x0,(x1,x2),x3,x4)))) (x7_:Int) (hx7_:x7_ = (IntKind.i64.wrap (IntKind.i64.wrap (wetS (List.getD l x5_ (0,0,0,0,0,0,0,0,0)) c1 * IntKind.i64.wrap ((List.getD m (Int.toNat i) (0,0,0,0)).snd.snd.snd - (List.getD m (Int.toNat i) (0,0,0,0)).snd.snd.fst)) * (List.getD ps x6_ (0,0,0)).snd.snd))) (x9_:Int × Int) (hx9_:x9_ = (sideS (List.getD ps x6_ (0,0,0)))) (x8_:Int) (hx8_:x8_ = (upS (upS (IntKind.i64.wrap (wetS (List.getD l x5_ (0,0,0,0,0,0,0,0,0)) c1 * IntKind.i64.wrap ((List.getD m (Int.toNat i) (0,0,0,0)).snd.snd.snd - (List.getD m (Int.toNat i) (0,0,0,0)).snd.snd.fst)) * x9_.snd) x1_.fst * c3) (1000:Int))) (x2_:Int × Int × Int × Int) (hx2_:x2_ = (rubS c0 (IntKind.i64.wrap (wetS (List.getD l x5_ (0,0,0,0,0,0,0,0,0)) c1 * IntKind.i64.wrap ((List.getD m (Int.toNat i) (0,0,0,0)).snd.snd.snd - (List.getD m (Int.toNat i) (0,0,0,0)).snd.snd.fst)) * x9_.fst / x1_.fst * c2 / (1000:Int)) x8_ (List.getD l x5_ (0,0,0,0,0,0,0,0,0)).snd.snd.snd.snd.fst (hgH (x0,(IntKind.i64.wrap (x1 + IntKind.i64.wrap (IntKind.i64.wrap (wetS (List.getD l x5_ (0,0,0,0,0,0,0,0,0)) c1 * IntKind.i64.wrap ((List.getD m (Int.toNat i) (0,0,0,0)).snd.snd.snd - (List.getD m (Int.toNat i) (0,0,0,0)).snd.snd.fst)) * (List.getD ps x6_ (0,0,0)).snd.snd) / x1_.fst),IntKind.i64.wrap (x2 + upS x7_ x1_.fst)),x3,x4)))) (x4_:Int × Int × Int × Int) (hx4_:x4_ = (rubS c0 (IntKind.i64.wrap (wetS (List.getD l x5_ (0,0,0,0,0,0,0,0,0)) c1 * IntKind.i64.wrap ((List.getD m (Int.toNat i) (0,0,0,0)).snd.snd.snd - (List.getD m (Int.toNat i) (0,0,0,0)).snd.snd.fst)) * x9_.fst / x1_.fst * c2 / (1000:Int)) x8_ (List.getD l x5_ (0,0,0,0,0,0,0,0,0)).snd.snd.snd.snd.fst (hgH (x0,(IntKind.i64.wrap (x3_.fst + IntKind.i64.wrap (IntKind.i64.wrap (wetS (List.getD l x5_ (0,0,0,0,0,0,0,0,0)) c1 * IntKind.i64.wrap ((List.getD m (Int.toNat i) (0,0,0,0)).snd.snd.snd - (List.getD m (Int.toNat i) (0,0,0,0)).snd.snd.fst)) * (List.getD ps x6_ (0,0,0)).snd.snd) / x1_.fst),IntKind.i64.wrap (x3_.snd.fst + upS x7_ x1_.fst)),x3_.snd.snd)))):loopBodyA (P:=P) [c_rWet.gc,c_rDot.gc,c_rRoot.gc,c_rSide.gc,c_rBend.gc,c_rdown.gc,c_rup.gc,c_rbent.gc,c_rrubbed.gc,c_rout.gc] (lpOf []) [] 176 noU (inner C_rld) L_rld X_rld (α:=Unit × Unit × Unit × List (Int × V) × Unit × List (Int × ((Int × Int) × (Int × Int))) × List (Int × Int) × Int × List Tb × Int × Int × Int × List V × Int × Int × Int × Int × Int × Int × Int × Int × Int × Int × Unit) (fun x => x) (fun x => x) ((),(),(),m,(),A,B,i,l,p0,p1,p2,ps,c0,c1,c2,c3,c4,x0,x1,x2,x3,x4,()) =
  Tree.cond (decide (i < (m.length:Int))) (.need ((0:Int) ≤ i ∧ i < (m.length:Int)) (.need ((0:Int) ≤ (List.getD m (Int.toNat i) (0,0,0,0)).fst ∧ (List.getD m (Int.toNat i) (0,0,0,0)).fst < (l.length:Int)) (.need ((0:Int) ≤ i ∧ i < (m.length:Int)) (.need ((0:Int) ≤ (List.getD m (Int.toNat i) (0,0,0,0)).snd.fst ∧ (List.getD m (Int.toNat i) (0,0,0,0)).snd.fst < (ps.length:Int)) (.cond (decide (i > (0:Int))) (.need ((0:Int) ≤ IntKind.i64.wrap (i - (1:Int)) ∧ IntKind.i64.wrap (i - (1:Int)) < (m.length:Int)) (.need ((0:Int) ≤ i ∧ i < (m.length:Int)) (.cond ((List.getD m (Int.toNat (IntKind.i64.wrap (i - (1:Int)))) (0,0,0,0)).snd.fst != (List.getD m (Int.toNat i) (0,0,0,0)).snd.fst) (.need ((0:Int) ≤ IntKind.i64.wrap (i - (1:Int)) ∧ IntKind.i64.wrap (i - (1:Int)) < (m.length:Int)) (.need ((0:Int) ≤ (List.getD m (Int.toNat (IntKind.i64.wrap (i - (1:Int)))) (0,0,0,0)).snd.fst ∧ (List.getD m (Int.toNat (IntKind.i64.wrap (i - (1:Int)))) (0,0,0,0)).snd.fst < (ps.length:Int)) (.need ((OkX x1 x2 ∧ OkMu (c2,c3) ∧ OkB (bendV (List.getD ps x6_ (0,0,0)) (List.getD ps (Int.toNat (List.getD m (Int.toNat (IntKind.i64.wrap (i - (1:Int)))) ((0:Int),(0:Int),(0:Int),(0:Int))).snd.fst) (0,0,0)))) ∧ ((2:Int) ≤ (List.getD l x5_ (0,0,0,0,0,0,0,0,0)).snd.snd.snd.snd.fst ∧ (List.getD l x5_ (0,0,0,0,0,0,0,0,0)).snd.snd.snd.snd.fst ≤ (90:Int)) ∧ (1:Int) ≤ c0 ∧ c0 ≤ (3:Int)) (.cond (decide (x3_.fst < (-4398046511104:Int)) || decide (x3_.snd.fst > (4398046511104:Int))) (.leaf (Sum.inr (Exit.ret,Lay.st L_rld_0 noU ([],[],false,())))) (.need ((List.length B + List.length [(x3_.fst,x3_.snd.fst)]) * (16:Nat) ≤ (140737488355328:Nat)) (.need ((0:Int) ≤ i ∧ i < (m.length:Int)) (.need ((0:Int) ≤ i ∧ i < (m.length:Int)) (.need ((0:Int) < x1_.fst ∧ (-9223372036854775808:Int) < IntKind.i64.wrap (IntKind.i64.wrap (wetS (List.getD l x5_ (0,0,0,0,0,0,0,0,0)) c1 * IntKind.i64.wrap ((List.getD m (Int.toNat i) (0,0,0,0)).snd.snd.snd - (List.getD m (Int.toNat i) (0,0,0,0)).snd.snd.fst)) * (List.getD ps x6_ (0,0,0)).snd.snd) ∧ IntKind.i64.wrap (IntKind.i64.wrap (wetS (List.getD l x5_ (0,0,0,0,0,0,0,0,0)) c1 * IntKind.i64.wrap ((List.getD m (Int.toNat i) (0,0,0,0)).snd.snd.snd - (List.getD m (Int.toNat i) (0,0,0,0)).snd.snd.fst)) * (List.getD ps x6_ (0,0,0)).snd.snd) ≤ (9223372036854775807:Int)) (.need ((0:Int) < x1_.fst ∧ (-9223372036854775808:Int) < IntKind.i64.wrap (IntKind.i64.wrap (wetS (List.getD l x5_ (0,0,0,0,0,0,0,0,0)) c1 * IntKind.i64.wrap ((List.getD m (Int.toNat i) (0,0,0,0)).snd.snd.snd - (List.getD m (Int.toNat i) (0,0,0,0)).snd.snd.fst)) * (List.getD ps x6_ (0,0,0)).snd.snd) ∧ IntKind.i64.wrap (IntKind.i64.wrap (wetS (List.getD l x5_ (0,0,0,0,0,0,0,0,0)) c1 * IntKind.i64.wrap ((List.getD m (Int.toNat i) (0,0,0,0)).snd.snd.snd - (List.getD m (Int.toNat i) (0,0,0,0)).snd.snd.fst)) * (List.getD ps x6_ (0,0,0)).snd.snd) < (9223372036854775807:Int)) (.cond (decide (IntKind.i64.wrap (x3_.fst + IntKind.i64.wrap (IntKind.i64.wrap (wetS (List.getD l x5_ (0,0,0,0,0,0,0,0,0)) c1 * IntKind.i64.wrap ((List.getD m (Int.toNat i) (0,0,0,0)).snd.snd.snd - (List.getD m (Int.toNat i) (0,0,0,0)).snd.snd.fst)) * (List.getD ps x6_ (0,0,0)).snd.snd) / x1_.fst) < (-4398046511104:Int)) || decide (IntKind.i64.wrap (x3_.snd.fst + upS x7_ x1_.fst) > (4398046511104:Int))) (.leaf (Sum.inr (Exit.ret,Lay.st L_rld_0 noU ([],[],false,())))) (.need (((0:Int) < x1_.fst ∧ OkX (IntKind.i64.wrap (x3_.fst + IntKind.i64.wrap (IntKind.i64.wrap (wetS (List.getD l x5_ (0,0,0,0,0,0,0,0,0)) c1 * IntKind.i64.wrap ((List.getD m (Int.toNat i) (0,0,0,0)).snd.snd.snd - (List.getD m (Int.toNat i) (0,0,0,0)).snd.snd.fst)) * (List.getD ps x6_ (0,0,0)).snd.snd) / x1_.fst)) (IntKind.i64.wrap (x3_.snd.fst + upS x7_ x1_.fst)) ∧ OkMu (c2,c3) ∧ OkF (IntKind.i64.wrap (wetS (List.getD l x5_ (0,0,0,0,0,0,0,0,0)) c1 * IntKind.i64.wrap ((List.getD m (Int.toNat i) (0,0,0,0)).snd.snd.snd - (List.getD m (Int.toNat i) (0,0,0,0)).snd.snd.fst)) * x9_.fst / x1_.fst * c2 / (1000:Int)) x8_) ∧ ((0:Int) ≤ IntKind.i64.wrap (wetS (List.getD l x5_ (0,0,0,0,0,0,0,0,0)) c1 * IntKind.i64.wrap ((List.getD m (Int.toNat i) (0,0,0,0)).snd.snd.snd - (List.getD m (Int.toNat i) (0,0,0,0)).snd.snd.fst)) * x9_.fst ∧ IntKind.i64.wrap (wetS (List.getD l x5_ (0,0,0,0,0,0,0,0,0)) c1 * IntKind.i64.wrap ((List.getD m (Int.toNat i) (0,0,0,0)).snd.snd.snd - (List.getD m (Int.toNat i) (0,0,0,0)).snd.snd.fst)) * x9_.fst ≤ (549759943868416000:Int)) ∧ ((0:Int) ≤ IntKind.i64.wrap (wetS (List.getD l x5_ (0,0,0,0,0,0,0,0,0)) c1 * IntKind.i64.wrap ((List.getD m (Int.toNat i) (0,0,0,0)).snd.snd.snd - (List.getD m (Int.toNat i) (0,0,0,0)).snd.snd.fst)) * x9_.snd ∧ IntKind.i64.wrap (wetS (List.getD l x5_ (0,0,0,0,0,0,0,0,0)) c1 * IntKind.i64.wrap ((List.getD m (Int.toNat i) (0,0,0,0)).snd.snd.snd - (List.getD m (Int.toNat i) (0,0,0,0)).snd.snd.fst)) * x9_.snd ≤ (549764138172416000:Int)) ∧ ((0:Int) ≤ IntKind.i64.wrap (wetS (List.getD l x5_ (0,0,0,0,0,0,0,0,0)) c1 * IntKind.i64.wrap ((List.getD m (Int.toNat i) (0,0,0,0)).snd.snd.snd - (List.getD m (Int.toNat i) (0,0,0,0)).snd.snd.fst)) * x9_.fst / x1_.fst ∧ IntKind.i64.wrap (wetS (List.getD l x5_ (0,0,0,0,0,0,0,0,0)) c1 * IntKind.i64.wrap ((List.getD m (Int.toNat i) (0,0,0,0)).snd.snd.snd - (List.getD m (Int.toNat i) (0,0,0,0)).snd.snd.fst)) * x9_.fst / x1_.fst ≤ (8388608000000:Int)) ∧ ((0:Int) ≤ upS (IntKind.i64.wrap (wetS (List.getD l x5_ (0,0,0,0,0,0,0,0,0)) c1 * IntKind.i64.wrap ((List.getD m (Int.toNat i) (0,0,0,0)).snd.snd.snd - (List.getD m (Int.toNat i) (0,0,0,0)).snd.snd.fst)) * x9_.snd) x1_.fst ∧ upS (IntKind.i64.wrap (wetS (List.getD l x5_ (0,0,0,0,0,0,0,0,0)) c1 * IntKind.i64.wrap ((List.getD m (Int.toNat i) (0,0,0,0)).snd.snd.snd - (List.getD m (Int.toNat i) (0,0,0,0)).snd.snd.fst)) * x9_.snd) x1_.fst ≤ (8388608000000:Int)) ∧ ((2:Int) ≤ (List.getD l x5_ (0,0,0,0,0,0,0,0,0)).snd.snd.snd.snd.fst ∧ (List.getD l x5_ (0,0,0,0,0,0,0,0,0)).snd.snd.snd.snd.fst ≤ (90:Int)) ∧ (1:Int) ≤ c0 ∧ c0 ≤ (3:Int)) (.cond (decide (x4_.fst < (-4398046511104:Int)) || decide (x4_.snd.fst > (4398046511104:Int))) (.leaf (Sum.inr (Exit.ret,Lay.st L_rld_0 noU ([],[],false,())))) (.need ((0:Int) ≤ i ∧ i < (m.length:Int)) (.need ((List.length A + List.length [((List.getD m (Int.toNat i) (0,0,0,0)).snd.snd.fst,(x4_.fst,x4_.snd.fst),x4_.snd.snd)]) * (40:Nat) ≤ (140737488355328:Nat)) (.leaf (Sum.inl ((),(),(),m,(),A ++ [((List.getD m (Int.toNat i) (0,0,0,0)).snd.snd.fst,(x4_.fst,x4_.snd.fst),x4_.snd.snd)],B ++ [(x3_.fst,x3_.snd.fst)],IntKind.i64.wrap (i + (1:Int)),l,p0,p1,p2,ps,c0,c1,c2,c3,c4,(List.getD m (Int.toNat i) (0,0,0,0)).snd.snd.fst,x4_.fst,x4_.snd.fst,x4_.snd.snd.fst,x4_.snd.snd.snd,()))))))))))))))))) (.need ((List.length B + List.length [(x1,x2)]) * (16:Nat) ≤ (140737488355328:Nat)) (.need ((0:Int) ≤ i ∧ i < (m.length:Int)) (.need ((0:Int) ≤ i ∧ i < (m.length:Int)) (.need ((0:Int) < x1_.fst ∧ (-9223372036854775808:Int) < IntKind.i64.wrap (IntKind.i64.wrap (wetS (List.getD l x5_ (0,0,0,0,0,0,0,0,0)) c1 * IntKind.i64.wrap ((List.getD m (Int.toNat i) (0,0,0,0)).snd.snd.snd - (List.getD m (Int.toNat i) (0,0,0,0)).snd.snd.fst)) * (List.getD ps x6_ (0,0,0)).snd.snd) ∧ IntKind.i64.wrap (IntKind.i64.wrap (wetS (List.getD l x5_ (0,0,0,0,0,0,0,0,0)) c1 * IntKind.i64.wrap ((List.getD m (Int.toNat i) (0,0,0,0)).snd.snd.snd - (List.getD m (Int.toNat i) (0,0,0,0)).snd.snd.fst)) * (List.getD ps x6_ (0,0,0)).snd.snd) ≤ (9223372036854775807:Int)) (.need ((0:Int) < x1_.fst ∧ (-9223372036854775808:Int) < IntKind.i64.wrap (IntKind.i64.wrap (wetS (List.getD l x5_ (0,0,0,0,0,0,0,0,0)) c1 * IntKind.i64.wrap ((List.getD m (Int.toNat i) (0,0,0,0)).snd.snd.snd - (List.getD m (Int.toNat i) (0,0,0,0)).snd.snd.fst)) * (List.getD ps x6_ (0,0,0)).snd.snd) ∧ IntKind.i64.wrap (IntKind.i64.wrap (wetS (List.getD l x5_ (0,0,0,0,0,0,0,0,0)) c1 * IntKind.i64.wrap ((List.getD m (Int.toNat i) (0,0,0,0)).snd.snd.snd - (List.getD m (Int.toNat i) (0,0,0,0)).snd.snd.fst)) * (List.getD ps x6_ (0,0,0)).snd.snd) < (9223372036854775807:Int)) (.cond (decide (IntKind.i64.wrap (x1 + IntKind.i64.wrap (IntKind.i64.wrap (wetS (List.getD l x5_ (0,0,0,0,0,0,0,0,0)) c1 * IntKind.i64.wrap ((List.getD m (Int.toNat i) (0,0,0,0)).snd.snd.snd - (List.getD m (Int.toNat i) (0,0,0,0)).snd.snd.fst)) * (List.getD ps x6_ (0,0,0)).snd.snd) / x1_.fst) < (-4398046511104:Int)) || decide (IntKind.i64.wrap (x2 + upS x7_ x1_.fst) > (4398046511104:Int))) (.leaf (Sum.inr (Exit.ret,Lay.st L_rld_0 noU ([],[],false,())))) (.need (((0:Int) < x1_.fst ∧ OkX (IntKind.i64.wrap (x1 + IntKind.i64.wrap (IntKind.i64.wrap (wetS (List.getD l x5_ (0,0,0,0,0,0,0,0,0)) c1 * IntKind.i64.wrap ((List.getD m (Int.toNat i) (0,0,0,0)).snd.snd.snd - (List.getD m (Int.toNat i) (0,0,0,0)).snd.snd.fst)) * (List.getD ps x6_ (0,0,0)).snd.snd) / x1_.fst)) (IntKind.i64.wrap (x2 + upS x7_ x1_.fst)) ∧ OkMu (c2,c3) ∧ OkF (IntKind.i64.wrap (wetS (List.getD l x5_ (0,0,0,0,0,0,0,0,0)) c1 * IntKind.i64.wrap ((List.getD m (Int.toNat i) (0,0,0,0)).snd.snd.snd - (List.getD m (Int.toNat i) (0,0,0,0)).snd.snd.fst)) * x9_.fst / x1_.fst * c2 / (1000:Int)) x8_) ∧ ((0:Int) ≤ IntKind.i64.wrap (wetS (List.getD l x5_ (0,0,0,0,0,0,0,0,0)) c1 * IntKind.i64.wrap ((List.getD m (Int.toNat i) (0,0,0,0)).snd.snd.snd - (List.getD m (Int.toNat i) (0,0,0,0)).snd.snd.fst)) * x9_.fst ∧ IntKind.i64.wrap (wetS (List.getD l x5_ (0,0,0,0,0,0,0,0,0)) c1 * IntKind.i64.wrap ((List.getD m (Int.toNat i) (0,0,0,0)).snd.snd.snd - (List.getD m (Int.toNat i) (0,0,0,0)).snd.snd.fst)) * x9_.fst ≤ (549759943868416000:Int)) ∧ ((0:Int) ≤ IntKind.i64.wrap (wetS (List.getD l x5_ (0,0,0,0,0,0,0,0,0)) c1 * IntKind.i64.wrap ((List.getD m (Int.toNat i) (0,0,0,0)).snd.snd.snd - (List.getD m (Int.toNat i) (0,0,0,0)).snd.snd.fst)) * x9_.snd ∧ IntKind.i64.wrap (wetS (List.getD l x5_ (0,0,0,0,0,0,0,0,0)) c1 * IntKind.i64.wrap ((List.getD m (Int.toNat i) (0,0,0,0)).snd.snd.snd - (List.getD m (Int.toNat i) (0,0,0,0)).snd.snd.fst)) * x9_.snd ≤ (549764138172416000:Int)) ∧ ((0:Int) ≤ IntKind.i64.wrap (wetS (List.getD l x5_ (0,0,0,0,0,0,0,0,0)) c1 * IntKind.i64.wrap ((List.getD m (Int.toNat i) (0,0,0,0)).snd.snd.snd - (List.getD m (Int.toNat i) (0,0,0,0)).snd.snd.fst)) * x9_.fst / x1_.fst ∧ IntKind.i64.wrap (wetS (List.getD l x5_ (0,0,0,0,0,0,0,0,0)) c1 * IntKind.i64.wrap ((List.getD m (Int.toNat i) (0,0,0,0)).snd.snd.snd - (List.getD m (Int.toNat i) (0,0,0,0)).snd.snd.fst)) * x9_.fst / x1_.fst ≤ (8388608000000:Int)) ∧ ((0:Int) ≤ upS (IntKind.i64.wrap (wetS (List.getD l x5_ (0,0,0,0,0,0,0,0,0)) c1 * IntKind.i64.wrap ((List.getD m (Int.toNat i) (0,0,0,0)).snd.snd.snd - (List.getD m (Int.toNat i) (0,0,0,0)).snd.snd.fst)) * x9_.snd) x1_.fst ∧ upS (IntKind.i64.wrap (wetS (List.getD l x5_ (0,0,0,0,0,0,0,0,0)) c1 * IntKind.i64.wrap ((List.getD m (Int.toNat i) (0,0,0,0)).snd.snd.snd - (List.getD m (Int.toNat i) (0,0,0,0)).snd.snd.fst)) * x9_.snd) x1_.fst ≤ (8388608000000:Int)) ∧ ((2:Int) ≤ (List.getD l x5_ (0,0,0,0,0,0,0,0,0)).snd.snd.snd.snd.fst ∧ (List.getD l x5_ (0,0,0,0,0,0,0,0,0)).snd.snd.snd.snd.fst ≤ (90:Int)) ∧ (1:Int) ≤ c0 ∧ c0 ≤ (3:Int)) (.cond (decide (x2_.fst < (-4398046511104:Int)) || decide (x2_.snd.fst > (4398046511104:Int))) (.leaf (Sum.inr (Exit.ret,Lay.st L_rld_0 noU ([],[],false,())))) (.need ((0:Int) ≤ i ∧ i < (m.length:Int)) (.need ((List.length A + List.length [((List.getD m (Int.toNat i) (0,0,0,0)).snd.snd.fst,(x2_.fst,x2_.snd.fst),x2_.snd.snd)]) * (40:Nat) ≤ (140737488355328:Nat)) (.leaf (Sum.inl ((),(),(),m,(),A ++ [((List.getD m (Int.toNat i) (0,0,0,0)).snd.snd.fst,(x2_.fst,x2_.snd.fst),x2_.snd.snd)],B ++ [(x1,x2)],IntKind.i64.wrap (i + (1:Int)),l,p0,p1,p2,ps,c0,c1,c2,c3,c4,(List.getD m (Int.toNat i) (0,0,0,0)).snd.snd.fst,x2_.fst,x2_.snd.fst,x2_.snd.snd.fst,x2_.snd.snd.snd,())))))))))))))))) (.need ((List.length B + List.length [(x1,x2)]) * (16:Nat) ≤ (140737488355328:Nat)) (.need ((0:Int) ≤ i ∧ i < (m.length:Int)) (.need ((0:Int) ≤ i ∧ i < (m.length:Int)) (.need ((0:Int) < x1_.fst ∧ (-9223372036854775808:Int) < IntKind.i64.wrap (IntKind.i64.wrap (wetS (List.getD l x5_ (0,0,0,0,0,0,0,0,0)) c1 * IntKind.i64.wrap ((List.getD m (Int.toNat i) (0,0,0,0)).snd.snd.snd - (List.getD m (Int.toNat i) (0,0,0,0)).snd.snd.fst)) * (List.getD ps x6_ (0,0,0)).snd.snd) ∧ IntKind.i64.wrap (IntKind.i64.wrap (wetS (List.getD l x5_ (0,0,0,0,0,0,0,0,0)) c1 * IntKind.i64.wrap ((List.getD m (Int.toNat i) (0,0,0,0)).snd.snd.snd - (List.getD m (Int.toNat i) (0,0,0,0)).snd.snd.fst)) * (List.getD ps x6_ (0,0,0)).snd.snd) ≤ (9223372036854775807:Int)) (.need ((0:Int) < x1_.fst ∧ (-9223372036854775808:Int) < IntKind.i64.wrap (IntKind.i64.wrap (wetS (List.getD l x5_ (0,0,0,0,0,0,0,0,0)) c1 * IntKind.i64.wrap ((List.getD m (Int.toNat i) (0,0,0,0)).snd.snd.snd - (List.getD m (Int.toNat i) (0,0,0,0)).snd.snd.fst)) * (List.getD ps x6_ (0,0,0)).snd.snd) ∧ IntKind.i64.wrap (IntKind.i64.wrap (wetS (List.getD l x5_ (0,0,0,0,0,0,0,0,0)) c1 * IntKind.i64.wrap ((List.getD m (Int.toNat i) (0,0,0,0)).snd.snd.snd - (List.getD m (Int.toNat i) (0,0,0,0)).snd.snd.fst)) * (List.getD ps x6_ (0,0,0)).snd.snd) < (9223372036854775807:Int)) (.cond (decide (IntKind.i64.wrap (x1 + IntKind.i64.wrap (IntKind.i64.wrap (wetS (List.getD l x5_ (0,0,0,0,0,0,0,0,0)) c1 * IntKind.i64.wrap ((List.getD m (Int.toNat i) (0,0,0,0)).snd.snd.snd - (List.getD m (Int.toNat i) (0,0,0,0)).snd.snd.fst)) * (List.getD ps x6_ (0,0,0)).snd.snd) / x1_.fst) < (-4398046511104:Int)) || decide (IntKind.i64.wrap (x2 + upS x7_ x1_.fst) > (4398046511104:Int))) (.leaf (Sum.inr (Exit.ret,Lay.st L_rld_0 noU ([],[],false,())))) (.need (((0:Int) < x1_.fst ∧ OkX (IntKind.i64.wrap (x1 + IntKind.i64.wrap (IntKind.i64.wrap (wetS (List.getD l x5_ (0,0,0,0,0,0,0,0,0)) c1 * IntKind.i64.wrap ((List.getD m (Int.toNat i) (0,0,0,0)).snd.snd.snd - (List.getD m (Int.toNat i) (0,0,0,0)).snd.snd.fst)) * (List.getD ps x6_ (0,0,0)).snd.snd) / x1_.fst)) (IntKind.i64.wrap (x2 + upS x7_ x1_.fst)) ∧ OkMu (c2,c3) ∧ OkF (IntKind.i64.wrap (wetS (List.getD l x5_ (0,0,0,0,0,0,0,0,0)) c1 * IntKind.i64.wrap ((List.getD m (Int.toNat i) (0,0,0,0)).snd.snd.snd - (List.getD m (Int.toNat i) (0,0,0,0)).snd.snd.fst)) * x9_.fst / x1_.fst * c2 / (1000:Int)) x8_) ∧ ((0:Int) ≤ IntKind.i64.wrap (wetS (List.getD l x5_ (0,0,0,0,0,0,0,0,0)) c1 * IntKind.i64.wrap ((List.getD m (Int.toNat i) (0,0,0,0)).snd.snd.snd - (List.getD m (Int.toNat i) (0,0,0,0)).snd.snd.fst)) * x9_.fst ∧ IntKind.i64.wrap (wetS (List.getD l x5_ (0,0,0,0,0,0,0,0,0)) c1 * IntKind.i64.wrap ((List.getD m (Int.toNat i) (0,0,0,0)).snd.snd.snd - (List.getD m (Int.toNat i) (0,0,0,0)).snd.snd.fst)) * x9_.fst ≤ (549759943868416000:Int)) ∧ ((0:Int) ≤ IntKind.i64.wrap (wetS (List.getD l x5_ (0,0,0,0,0,0,0,0,0)) c1 * IntKind.i64.wrap ((List.getD m (Int.toNat i) (0,0,0,0)).snd.snd.snd - (List.getD m (Int.toNat i) (0,0,0,0)).snd.snd.fst)) * x9_.snd ∧ IntKind.i64.wrap (wetS (List.getD l x5_ (0,0,0,0,0,0,0,0,0)) c1 * IntKind.i64.wrap ((List.getD m (Int.toNat i) (0,0,0,0)).snd.snd.snd - (List.getD m (Int.toNat i) (0,0,0,0)).snd.snd.fst)) * x9_.snd ≤ (549764138172416000:Int)) ∧ ((0:Int) ≤ IntKind.i64.wrap (wetS (List.getD l x5_ (0,0,0,0,0,0,0,0,0)) c1 * IntKind.i64.wrap ((List.getD m (Int.toNat i) (0,0,0,0)).snd.snd.snd - (List.getD m (Int.toNat i) (0,0,0,0)).snd.snd.fst)) * x9_.fst / x1_.fst ∧ IntKind.i64.wrap (wetS (List.getD l x5_ (0,0,0,0,0,0,0,0,0)) c1 * IntKind.i64.wrap ((List.getD m (Int.toNat i) (0,0,0,0)).snd.snd.snd - (List.getD m (Int.toNat i) (0,0,0,0)).snd.snd.fst)) * x9_.fst / x1_.fst ≤ (8388608000000:Int)) ∧ ((0:Int) ≤ upS (IntKind.i64.wrap (wetS (List.getD l x5_ (0,0,0,0,0,0,0,0,0)) c1 * IntKind.i64.wrap ((List.getD m (Int.toNat i) (0,0,0,0)).snd.snd.snd - (List.getD m (Int.toNat i) (0,0,0,0)).snd.snd.fst)) * x9_.snd) x1_.fst ∧ upS (IntKind.i64.wrap (wetS (List.getD l x5_ (0,0,0,0,0,0,0,0,0)) c1 * IntKind.i64.wrap ((List.getD m (Int.toNat i) (0,0,0,0)).snd.snd.snd - (List.getD m (Int.toNat i) (0,0,0,0)).snd.snd.fst)) * x9_.snd) x1_.fst ≤ (8388608000000:Int)) ∧ ((2:Int) ≤ (List.getD l x5_ (0,0,0,0,0,0,0,0,0)).snd.snd.snd.snd.fst ∧ (List.getD l x5_ (0,0,0,0,0,0,0,0,0)).snd.snd.snd.snd.fst ≤ (90:Int)) ∧ (1:Int) ≤ c0 ∧ c0 ≤ (3:Int)) (.cond (decide (x2_.fst < (-4398046511104:Int)) || decide (x2_.snd.fst > (4398046511104:Int))) (.leaf (Sum.inr (Exit.ret,Lay.st L_rld_0 noU ([],[],false,())))) (.need ((0:Int) ≤ i ∧ i < (m.length:Int)) (.need ((List.length A + List.length [((List.getD m (Int.toNat i) (0,0,0,0)).snd.snd.fst,(x2_.fst,x2_.snd.fst),x2_.snd.snd)]) * (40:Nat) ≤ (140737488355328:Nat)) (.leaf (Sum.inl ((),(),(),m,(),A ++ [((List.getD m (Int.toNat i) (0,0,0,0)).snd.snd.fst,(x2_.fst,x2_.snd.fst),x2_.snd.snd)],B ++ [(x1,x2)],IntKind.i64.wrap (i + (1:Int)),l,p0,p1,p2,ps,c0,c1,c2,c3,c4,(List.getD m (Int.toNat i) (0,0,0,0)).snd.snd.fst,x2_.fst,x2_.snd.fst,x2_.snd.snd.fst,x2_.snd.snd.snd,())))))))))))))))))) (.leaf (Sum.inr (Exit.exit (0:Nat),Lay.st L_rld_1 noU (A,B,())))):=by
  subst hx4_; subst hx2_; subst hx8_; subst hx9_; subst hx7_; subst hx3_; subst hx1_; subst hx6_; subst hx5_; kernel_rfl
def inv_rld:Unit × Unit × Unit × List (Int × V) × Unit × List (Int × ((Int × Int) × (Int × Int))) × List (Int × Int) × Int × List Tb × Int × Int × Int × List V × Int × Int × Int × Int × Int × Int × Int × Int × Int × Int × Unit → Prop:=fun ((),(),(),m,(),A,B,i,l,p0,p1,p2,ps,c0,c1,c2,c3,c4,x0,x1,x2,x3,x4,()) => (fitsS l ((p0,p1,p2),ps) = 0 ∧ caseS l (c0,c1,(c2,c3),c4) = 0 ∧ m = pcsS l ((p0,p1,p2),ps)) ∧ (0 ≤ i ∧ i ≤ m.length ∧ (A.length:Int) = i ∧ (B.length:Int) = i) ∧ OkX x1 x2
def O_rld:Unit × Unit × Unit × List (Int × V) × Unit × List (Int × ((Int × Int) × (Int × Int))) × List (Int × Int) × Int × List Tb × Int × Int × Int × List V × Int × Int × Int × Int × Int × Int × Int × Int × Int × Int × Unit → Tree (Exit × St):=fun ((),(),(),m,(),A,B,i,l,p0,p1,p2,ps,c0,c1,c2,c3,c4,x0,x1,x2,x3,x4,()) => .cond (runF l ((p0,p1,p2),ps) (c0,c1,(c2,c3),c4) (blw m i) (x1,x2,x3,x4) A B (m.drop i.toNat)).1 (.leaf (.exit 0,L_rld_1.st noU (((runF l ((p0,p1,p2),ps) (c0,c1,(c2,c3),c4) (blw m i) (x1,x2,x3,x4) A B (m.drop i.toNat)).2.2.2.1),((runF l ((p0,p1,p2),ps) (c0,c1,(c2,c3),c4) (blw m i) (x1,x2,x3,x4) A B (m.drop i.toNat)).2.2.2.2),()))) (.leaf (.ret,L_rld_0.st noU ((([] : List Hg)),(([] : List R2)),(false),())))
def R_rld:LRun:=runOf 176 L_rld (fun x => x) (inv_rld) (O_rld)
theorem K_rld:LoopOk P [] 176 none noU C_rld (R_rld):=by
  refine loop_of hm (cx:=[c_rWet.gc,c_rDot.gc,c_rRoot.gc,c_rSide.gc,c_rBend.gc,c_rdown.gc,c_rup.gc,c_rbent.gc,c_rrubbed.gc,c_rout.gc]) [] (xl:=X_rld) (α:=Unit × Unit × Unit × List (Int × V) × Unit × List (Int × ((Int × Int) × (Int × Int))) × List (Int × Int) × Int × List Tb × Int × Int × Int × List V × Int × Int × Int × Int × Int × Int × Int × Int × Int × Int × Unit) (fun x => x) (fun ((),(),(),m,(),A,B,i,l,p0,p1,p2,ps,c0,c1,c2,c3,c4,x0,x1,x2,x3,x4,()) => ((m.length:Int) - i).toNat) (fun _ => rfl) (by kernel_rfl) (by kernel_rfl) ?_ (by kernel_rfl) trivial ?_
  · intro e S L' h
    unfold X_rld at h
    split at h <;> first | (cases h; done) | (cases h; kernel_rfl) | (rcases bif_some h with h | h <;> cases h <;> kernel_rfl)
  · rintro ⟨⟨⟩,⟨⟩,⟨⟩,m,⟨⟩,A,B,i,l,p0,p1,p2,ps,c0,c1,c2,c3,c4,x0,x1,x2,x3,x4,⟨⟩⟩ hinv Q hQ
    refine hold_of_eq (B_rld m A B i l p0 p1 p2 ps c0 c1 c2 c3 c4 x0 x1 x2 x3 x4 _ rfl _ rfl _ rfl _ rfl _ rfl _ rfl _ rfl _ rfl _ rfl) ?_
    obtain ⟨⟨hf,hc,hm⟩,⟨h0,h1,hA,hB⟩,hx⟩:=hinv
    have hch:Chain l ((p0,p1,p2),ps) (blw m i) (m.drop i.toNat):=chain_blw (by rw [hm]; exact chain_all hf) h0 (by omega)
    obtain ⟨hck,hcase⟩:=caseS_ok hc
    have hlen:m.length ≤ 160:=by rw [hm]; exact pcsS_few hf
    have hmode:c0 = 1 ∨ c0 = 2 ∨ c0 = 3:=by have:=hcase.mode; dsimp only at this; omega
    have hH:∀ a b c d e:Int,hgH (a,(b,c),d,e) = (b,c,d,e):=fun _ _ _ _ _ => rfl
    unfold O_rld at hQ
    dsimp only at hQ
    rw [W_id (n:=i + 1) (by omega) (by omega),W_id (n:=i - 1) (by omega) (by omega)]
    simp only [hH]
    refine ⟨fun d1 => ?_,fun d1 => ?_⟩
    · have d1:i < m.length:=of_decide_eq_true d1
      have hb1:blw m (i + 1) = (m.getD i.toNat (0,0,0,0)).2.1:=by unfold blw; rw [if_neg (by omega),show i + 1 - 1 = i by omega]
      have hb0:0 < i → blw m i = (m.getD (i - 1).toNat (0,0,0,0)).2.1:=by intro h; unfold blw; rw [if_neg (by omega)]
      have hb2:¬ 0 < i → blw m i = -1:=by intro h; unfold blw; rw [if_pos (by omega)]
      have hqm:m.getD i.toNat (0,0,0,0) ∈ pcsS l ((p0,p1,p2),ps):=by rw [← hm]; exact mem_getD h0 d1
      have hrm:0 < i → m.getD (i - 1).toNat (0,0,0,0) ∈ pcsS l ((p0,p1,p2),ps):=by intro h; rw [← hm]; exact mem_getD (by omega) (by omega)
      have hqi:=pcsS_idx hqm
      have hql:=pcsS_leg hf hqm
      have hrl:=fun h => pcsS_leg hf (hrm h)
      clear hqm hrm
      rw [drop_step (0,0,0,0) h0 d1] at hch hQ
      have i1:0 ≤ i ∧ i < (m.length:Int):=⟨h0,d1⟩
      have i2:0 < i → 0 ≤ i - 1 ∧ i - 1 < (m.length:Int):=by omega
      generalize m.getD i.toNat (0,0,0,0) = q at *
      generalize m.getD (i - 1).toNat (0,0,0,0) = r at *
      generalize blw m i = b at *
      generalize hrs:m.drop (i + 1).toNat = rs at *
      cases hch with
      | cons _ _ _ hbb hleg hfair htm hw hg hr =>
      rw [runF_cons] at hQ
      have hpc:PcOk l ((p0,p1,p2),ps) (c0,c1,(c2,c3),c4) q:=pc_ok hcase (b:=b) hleg hfair htm hw
      obtain ⟨hF,hw1,hw2,hd1,hu1⟩:=hpc.rub hcase.mu
      have hwp:=hpc.wpos
      have hwm:=hpc.wmax
      have hout:2 ≤ (pcT l q).2.2.2.2.1 ∧ (pcT l q).2.2.2.2.1 ≤ 90:=hfair.out
      have eW:pcW l (c0,c1,(c2,c3),c4) q = wetS (l.getD q.1.toNat (0,0,0,0,0,0,0,0,0)) c1 * (q.2.2.2 - q.2.2.1):=rfl
      have eV:pcV ((p0,p1,p2),ps) q = ps.getD q.2.1.toNat (0,0,0):=rfl
      have eT:pcT l q = l.getD q.1.toNat (0,0,0,0,0,0,0,0,0):=rfl
      have hs1:step1 l ((p0,p1,p2),ps) (c0,c1,(c2,c3),c4) b q (x1,x2,x3,x4) = if b ≥ 0 ∧ b ≠ q.2.1 then bentS c0 (c2,c3) (bendV (ps.getD q.2.1.toNat (0,0,0)) (ps.getD b.toNat (0,0,0))) (l.getD q.1.toNat (0,0,0,0,0,0,0,0,0)).2.2.2.2.1 (x1,x2,x3,x4) else (x1,x2,x3,x4):=rfl
      have hs2:∀ x,step2 l ((p0,p1,p2),ps) (c0,c1,(c2,c3),c4) q x = (x.1 + pcW l (c0,c1,(c2,c3),c4) q * (ps.getD q.2.1.toNat (0,0,0)).2.2 / (wholeS (ps.getD q.2.1.toNat (0,0,0))).1,x.2.1 + upS (pcW l (c0,c1,(c2,c3),c4) q * (ps.getD q.2.1.toNat (0,0,0)).2.2) (wholeS (ps.getD q.2.1.toNat (0,0,0))).1,x.2.2):=fun _ => rfl
      have hs3:∀ x,step3 l ((p0,p1,p2),ps) (c0,c1,(c2,c3),c4) q x = rubS c0 (pcW l (c0,c1,(c2,c3),c4) q * (sideS (ps.getD q.2.1.toNat (0,0,0))).1 / (wholeS (ps.getD q.2.1.toNat (0,0,0))).1 * c2 / 1000) (upS (upS (pcW l (c0,c1,(c2,c3),c4) q * (sideS (ps.getD q.2.1.toNat (0,0,0))).2) (wholeS (ps.getD q.2.1.toNat (0,0,0))).1 * c3) 1000) (l.getD q.1.toNat (0,0,0,0,0,0,0,0,0)).2.2.2.2.1 x:=fun _ => rfl
      have hF' : OkF (pcW l (c0,c1,(c2,c3),c4) q * (sideS (ps.getD q.2.1.toNat (0,0,0))).1 / (wholeS (ps.getD q.2.1.toNat (0,0,0))).1 * c2 / 1000) (upS (upS (pcW l (c0,c1,(c2,c3),c4) q * (sideS (ps.getD q.2.1.toNat (0,0,0))).2) (wholeS (ps.getD q.2.1.toNat (0,0,0))).1 * c3) 1000):=hF
      clear hF
      rw [eV] at hw1 hw2 hd1 hu1 hleg hbb
      rw [eT] at hout
      have hbb:b ≥ 0 → b ≠ q.2.1 → OkB (bendV (ps.getD q.2.1.toNat (0,0,0)) (ps.getD b.toNat (0,0,0))):=hbb
      have eR:=root_leg hleg
      have hz:=leg_z hleg
      have hn:=hleg.2
      rw [W_id (n:=q.2.2.2 - q.2.2.1) (by omega) (by omega)]
      rw [← eW]
      clear eW eV eT hpc hfair htm hg
      generalize pcW l (c0,c1,(c2,c3),c4) q = w at *
      generalize ps.getD q.2.1.toNat (0,0,0) = v at *
      generalize l.getD q.1.toNat (0,0,0,0,0,0,0,0,0) = t at *
      rw [eR]
      have hwz:=mulB (a:=w) (b:=v.2.2) (A:=4194304000000) (B:=131072) (by omega) hz
      have hwzd:=div_rng (x:=w * v.2.2) (b:=(wholeS v).1) (M:=549755813888000000) (by omega) (by decide) (by omega) (by omega)
      have hwzu : -549755813888000000 ≤ upS (w * v.2.2) (wholeS v).1 ∧ upS (w * v.2.2) (wholeS v).1 ≤ 549755813888000000:=by
        have:=div_rng (x:=-(w * v.2.2)) (b:=(wholeS v).1) (M:=549755813888000000) (by omega) (by decide) (by omega) (by omega)
        unfold upS; omega
      rw [W_id (n:=w) (by omega) (by omega),W_id (n:=w * v.2.2) (by omega) (by omega)]
      simp only [hs2,hs3] at hQ
      generalize hfa:w * (sideS v).1 / (wholeS v).1 * c2 / 1000 = fa at *
      generalize hfb:upS (upS (w * (sideS v).2) (wholeS v).1 * c3) 1000 = fb at *
      refine ⟨i1,hqi,i1,hql,?_⟩
      obtain ⟨hx1,hx2,hx3⟩:=id hx
      have calm0:¬ wildS (x1,x2,x3,x4) = true:=calm (x:=(x1,x2,x3,x4)) hx
      refine ⟨fun d2 => ?_,fun d2 => ?_⟩
      · have d2:i > 0:=of_decide_eq_true d2
        refine ⟨i2 d2,i1,fun d3 => ?_,fun d3 => ?_⟩
        · have d3:r.2.1 ≠ q.2.1:=by simpa using d3
          have eb:=hb0 d2
          subst eb
          have hBv:=hbb (hrl d2).1 d3
          rw [if_pos ⟨(hrl d2).1,d3⟩] at hs1
          rw [hs1] at hQ
          have ho1:=bent_order (o:=t.2.2.2.2.1) (x:=(x1,x2,x3,x4)) hmode hx hcase.mu hBv
          refine ⟨i2 d2,hrl d2,⟨⟨hx,hcase.mu,hBv⟩,hout,hcase.mode⟩,fun d4 => ?_,fun d4 => ?_⟩
          · rw [if_pos (show wildS (bentS c0 (c2,c3) (bendV v (ps.getD r.2.1.toNat (0,0,0))) t.2.2.2.2.1 (x1,x2,x3,x4)) = true from d4)] at hQ
            exact hQ.2 rfl
          · have w1:¬ wildS (bentS c0 (c2,c3) (bendV v (ps.getD r.2.1.toNat (0,0,0))) t.2.2.2.2.1 (x1,x2,x3,x4)) = true:=by rw [show wildS (bentS c0 (c2,c3) (bendV v (ps.getD r.2.1.toNat (0,0,0))) t.2.2.2.2.1 (x1,x2,x3,x4)) = false from d4]; exact Bool.false_ne_true
            have ht:=tame ho1 w1
            clear hs1 hs2 hs3 hBv d4 hbb
            dsimp only at ho1
            generalize bentS c0 (c2,c3) (bendV v (ps.getD r.2.1.toNat (0,0,0))) t.2.2.2.2.1 (x1,x2,x3,x4) = X at *
            obtain ⟨q1,q2,q3,q4⟩:=X
            obtain ⟨hy1,hy2,hy3⟩:=ht
            dsimp only at hQ hy1 hy2 hy3 ⊢
            rw [W_id (n:=q1 + w * v.2.2 / (wholeS v).1) (by omega) (by omega),W_id (n:=q2 + upS (w * v.2.2) (wholeS v).1) (by omega) (by omega)]
            have o2:q1 + w * v.2.2 / (wholeS v).1 ≤ q2 + upS (w * v.2.2) (wholeS v).1:=by
              have:=floor_ceil (w * v.2.2) (wholeS v).1 (by omega)
              omega
            generalize q1 + w * v.2.2 / (wholeS v).1 = B1 at *
            generalize q2 + upS (w * v.2.2) (wholeS v).1 = B2 at *
            refine ⟨by simp only [List.length_cons,List.length_nil]; omega,i1,i1,⟨by omega,by omega,by omega⟩,⟨by omega,by omega,by omega⟩,fun d5 => ?_,fun d5 => ?_⟩
            · rw [if_neg w1,if_pos (show wildS (B1,B2,q3,q4) = true from d5)] at hQ
              exact hQ.2 rfl
            · have d5' : ¬ wildS (B1,B2,q3,q4) = true:=by rw [show wildS (B1,B2,q3,q4) = false from d5]; exact Bool.false_ne_true
              have hX2:OkX B1 B2:=tame (x:=(B1,B2,q3,q4)) o2 d5'
              refine ⟨⟨⟨by omega,hX2,hcase.mu,hF'⟩,hw1,hw2,hd1,hu1,hout,hcase.mode⟩,fun d6 => ?_,fun d6 => ?_⟩
              · rw [if_neg w1,if_neg d5',if_pos (show wildS (rubS c0 fa fb t.2.2.2.2.1 (B1,B2,q3,q4)) = true from d6)] at hQ
                exact hQ.2 rfl
              · have d6' : ¬ wildS (rubS c0 fa fb t.2.2.2.2.1 (B1,B2,q3,q4)) = true:=by rw [show wildS (rubS c0 fa fb t.2.2.2.2.1 (B1,B2,q3,q4)) = false from d6]; exact Bool.false_ne_true
                have hY:=tame (rub_order (mode:=c0) (o:=t.2.2.2.2.1) (x:=(B1,B2,q3,q4)) hmode o2 hF'.2.1) d6'
                rw [if_neg w1,if_neg d5',if_neg d6'] at hQ
                generalize rubS c0 fa fb t.2.2.2.2.1 (B1,B2,q3,q4) = Y at *
                obtain ⟨y1,y2,y3,y4⟩:=Y
                refine ⟨i1,by simp only [List.length_cons,List.length_nil]; omega,⟨⟨⟨hf,hc,hm⟩,⟨by omega,by omega,by simp only [List.length_append,List.length_cons,List.length_nil]; omega,by simp only [List.length_append,List.length_cons,List.length_nil]; omega⟩,hY⟩,by show ((m.length:Int) - (i + 1)).toNat < ((m.length:Int) - i).toNat; omega⟩,?_⟩
                unfold O_rld
                dsimp only
                rw [hb1,hrs]
                exact hQ
        · have d3:r.2.1 = q.2.1:=by simpa using d3
          have eb:=hb0 d2
          subst eb
          have w1:=calm0
          rw [if_neg (by omega)] at hs1
          rw [hs1] at hQ
          clear hs1 hs2 hs3 hbb
          try dsimp only at hQ
          rw [W_id (n:=x1 + w * v.2.2 / (wholeS v).1) (by omega) (by omega),W_id (n:=x2 + upS (w * v.2.2) (wholeS v).1) (by omega) (by omega)]
          have o2:x1 + w * v.2.2 / (wholeS v).1 ≤ x2 + upS (w * v.2.2) (wholeS v).1:=by
            have:=floor_ceil (w * v.2.2) (wholeS v).1 (by omega)
            omega
          generalize x1 + w * v.2.2 / (wholeS v).1 = B1 at *
          generalize x2 + upS (w * v.2.2) (wholeS v).1 = B2 at *
          refine ⟨by simp only [List.length_cons,List.length_nil]; omega,i1,i1,⟨by omega,by omega,by omega⟩,⟨by omega,by omega,by omega⟩,fun d5 => ?_,fun d5 => ?_⟩
          · rw [if_neg w1,if_pos (show wildS (B1,B2,x3,x4) = true from d5)] at hQ
            exact hQ.2 rfl
          · have d5' : ¬ wildS (B1,B2,x3,x4) = true:=by rw [show wildS (B1,B2,x3,x4) = false from d5]; exact Bool.false_ne_true
            have hX2:OkX B1 B2:=tame (x:=(B1,B2,x3,x4)) o2 d5'
            refine ⟨⟨⟨by omega,hX2,hcase.mu,hF'⟩,hw1,hw2,hd1,hu1,hout,hcase.mode⟩,fun d6 => ?_,fun d6 => ?_⟩
            · rw [if_neg w1,if_neg d5',if_pos (show wildS (rubS c0 fa fb t.2.2.2.2.1 (B1,B2,x3,x4)) = true from d6)] at hQ
              exact hQ.2 rfl
            · have d6' : ¬ wildS (rubS c0 fa fb t.2.2.2.2.1 (B1,B2,x3,x4)) = true:=by rw [show wildS (rubS c0 fa fb t.2.2.2.2.1 (B1,B2,x3,x4)) = false from d6]; exact Bool.false_ne_true
              have hY:=tame (rub_order (mode:=c0) (o:=t.2.2.2.2.1) (x:=(B1,B2,x3,x4)) hmode o2 hF'.2.1) d6'
              rw [if_neg w1,if_neg d5',if_neg d6'] at hQ
              generalize rubS c0 fa fb t.2.2.2.2.1 (B1,B2,x3,x4) = Y at *
              obtain ⟨y1,y2,y3,y4⟩:=Y
              refine ⟨i1,by simp only [List.length_cons,List.length_nil]; omega,⟨⟨⟨hf,hc,hm⟩,⟨by omega,by omega,by simp only [List.length_append,List.length_cons,List.length_nil]; omega,by simp only [List.length_append,List.length_cons,List.length_nil]; omega⟩,hY⟩,by show ((m.length:Int) - (i + 1)).toNat < ((m.length:Int) - i).toNat; omega⟩,?_⟩
              unfold O_rld
              dsimp only
              rw [hb1,hrs]
              exact hQ
      · have d2:¬ 0 < i:=of_decide_eq_false d2
        have eb:=hb2 d2
        subst eb
        have w1:=calm0
        rw [if_neg (by omega)] at hs1
        rw [hs1] at hQ
        clear hs1 hs2 hs3 hbb
        try dsimp only at hQ
        rw [W_id (n:=x1 + w * v.2.2 / (wholeS v).1) (by omega) (by omega),W_id (n:=x2 + upS (w * v.2.2) (wholeS v).1) (by omega) (by omega)]
        have o2:x1 + w * v.2.2 / (wholeS v).1 ≤ x2 + upS (w * v.2.2) (wholeS v).1:=by
          have:=floor_ceil (w * v.2.2) (wholeS v).1 (by omega)
          omega
        generalize x1 + w * v.2.2 / (wholeS v).1 = B1 at *
        generalize x2 + upS (w * v.2.2) (wholeS v).1 = B2 at *
        refine ⟨by simp only [List.length_cons,List.length_nil]; omega,i1,i1,⟨by omega,by omega,by omega⟩,⟨by omega,by omega,by omega⟩,fun d5 => ?_,fun d5 => ?_⟩
        · rw [if_neg w1,if_pos (show wildS (B1,B2,x3,x4) = true from d5)] at hQ
          exact hQ.2 rfl
        · have d5' : ¬ wildS (B1,B2,x3,x4) = true:=by rw [show wildS (B1,B2,x3,x4) = false from d5]; exact Bool.false_ne_true
          have hX2:OkX B1 B2:=tame (x:=(B1,B2,x3,x4)) o2 d5'
          refine ⟨⟨⟨by omega,hX2,hcase.mu,hF'⟩,hw1,hw2,hd1,hu1,hout,hcase.mode⟩,fun d6 => ?_,fun d6 => ?_⟩
          · rw [if_neg w1,if_neg d5',if_pos (show wildS (rubS c0 fa fb t.2.2.2.2.1 (B1,B2,x3,x4)) = true from d6)] at hQ
            exact hQ.2 rfl
          · have d6' : ¬ wildS (rubS c0 fa fb t.2.2.2.2.1 (B1,B2,x3,x4)) = true:=by rw [show wildS (rubS c0 fa fb t.2.2.2.2.1 (B1,B2,x3,x4)) = false from d6]; exact Bool.false_ne_true
            have hY:=tame (rub_order (mode:=c0) (o:=t.2.2.2.2.1) (x:=(B1,B2,x3,x4)) hmode o2 hF'.2.1) d6'
            rw [if_neg w1,if_neg d5',if_neg d6'] at hQ
            generalize rubS c0 fa fb t.2.2.2.2.1 (B1,B2,x3,x4) = Y at *
            obtain ⟨y1,y2,y3,y4⟩:=Y
            refine ⟨i1,by simp only [List.length_cons,List.length_nil]; omega,⟨⟨⟨hf,hc,hm⟩,⟨by omega,by omega,by simp only [List.length_append,List.length_cons,List.length_nil]; omega,by simp only [List.length_append,List.length_cons,List.length_nil]; omega⟩,hY⟩,by show ((m.length:Int) - (i + 1)).toNat < ((m.length:Int) - i).toNat; omega⟩,?_⟩
            unfold O_rld
            dsimp only
            rw [hb1,hrs]
            exact hQ
    · have d1:¬ i < m.length:=of_decide_eq_false d1
      rw [drop_end d1,runF_nil] at hQ
      exact hQ.1 rfl
end
end Go.MP
