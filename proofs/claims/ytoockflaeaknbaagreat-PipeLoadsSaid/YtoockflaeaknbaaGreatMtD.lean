/- Buckles, in the program and in the reference. -/
import Derived.Test.YtoockflaeaknbaaGreatMtC
namespace Go.MP
open Go Go.Sx Go.Proofs
set_option linter.unusedVariables false
set_option linter.unusedSimpArgs false
noncomputable section
def pressS (l:List Tb) (p:Pth) (c:Cs) (q:Pc):Int:=wetS (pcT l q) c.2.1 * (sideS (pcV p q)).1 / (wholeS (pcV p q)).1
def critS (l:List Tb) (p:Pth) (c:Cs) (hole:Int) (q:Pc):Int:=1000 * sqI (8 * (pcT l q).2.2.2.2.2.2.2.1 * pressS l p c q / (hole - (pcT l q).2.2.2.2.1))
def bkL (l:List Tb) (p:Pth) (c:Cs) (hole:Int) (a:List Hg) (b:List R2):List Pc → Int → List Int → List Int
  | [],_,o => o
  | q :: r,i,o => bkL l p c hole a b r (i + 1) (if minI (b.getD i.toNat (0,0)).1 (a.getD i.toNat (0,(0,0),(0,0))).2.1.1 < 0 - critS l p c hole q then o ++ [i] else o)
def wideT (hole:Int) (t:Tb):Bool:=decide (hole ≤ t.2.2.2.2.1)
def bklS (l:List Tb) (p:Pth) (c:Cs) (hole:Int):List Int × Int :=
  if (loadsS l p c).2.2 ≠ 0 then ([],(loadsS l p c).2.2) else if hole > 200 ∨ l.any (wideT hole) = true then ([],2)
  else (bkL l p c hole (loadsS l p c).1 (loadsS l p c).2.1 (pcsS l p) 0 [],0)
theorem bkL_step {l:List Tb} {p:Pth} {c:Cs} {hole:Int} {a:List Hg} {b:List R2} {m:List Pc} {i:Int} (h0:0 ≤ i) (h:i < m.length) (o:List Int):bkL l p c hole a b (m.drop i.toNat) i o = bkL l p c hole a b (m.drop (i + 1).toNat) (i + 1) (if minI (b.getD i.toNat (0,0)).1 (a.getD i.toNat (0,(0,0),(0,0))).2.1.1 < 0 - critS l p c hole (m.getD i.toNat (0,0,0,0)) then o ++ [i] else o):=by
  rw [drop_step (0,0,0,0) h0 h]; rfl
theorem pcs_ok {l:List Tb} {p:Pth} {c:Cs} (hf:fitsS l p = 0) (hc:caseS l c = 0) {i:Int} (h0:0 ≤ i) (h1:i < (pcsS l p).length):PcOk l p c ((pcsS l p).getD i.toNat (0,0,0,0)):=by
  have hch:=chain_blw (chain_all hf) h0 (by omega)
  rw [drop_step (0,0,0,0) h0 h1] at hch
  cases hch with
  | cons _ _ _ hbb hleg hfair htm hw hg hr => exact pc_ok (caseS_ok hc).2 (b:=0) hleg hfair htm hw
theorem crit_ok {l:List Tb} {p:Pth} {c:Cs} {hole:Int} {q:Pc} (h:PcOk l p c q) (hc:CaseOk l c) (h1:hole ≤ 200) (h2:(pcT l q).2.2.2.2.1 < hole) (h3:0 < wetS (pcT l q) c.2.1) :
    0 < (wholeS (pcV p q)).1 ∧ (0 ≤ wetS (pcT l q) c.2.1 ∧ wetS (pcT l q) c.2.1 ≤ 4000000) ∧ (0 ≤ wetS (pcT l q) c.2.1 * (sideS (pcV p q)).1 ∧ wetS (pcT l q) c.2.1 * (sideS (pcV p q)).1 ≤ 524288000000) ∧ (0 ≤ pressS l p c q ∧ pressS l p c q ≤ 4000000) ∧
    (0 ≤ (pcT l q).2.2.2.2.2.2.2.1 ∧ (pcT l q).2.2.2.2.2.2.2.1 ≤ 17179869184) ∧ (0 ≤ 8 * (pcT l q).2.2.2.2.2.2.2.1 * pressS l p c q ∧ 8 * (pcT l q).2.2.2.2.2.2.2.1 * pressS l p c q ≤ 549755813888000000) ∧
    (0 ≤ 8 * (pcT l q).2.2.2.2.2.2.2.1 * pressS l p c q / (hole - (pcT l q).2.2.2.2.1) ∧ 8 * (pcT l q).2.2.2.2.2.2.2.1 * pressS l p c q / (hole - (pcT l q).2.2.2.2.1) ≤ 549755813888000000) ∧
    (0 ≤ sqI (8 * (pcT l q).2.2.2.2.2.2.2.1 * pressS l p c q / (hole - (pcT l q).2.2.2.2.1)) ∧ sqI (8 * (pcT l q).2.2.2.2.2.2.2.1 * pressS l p c q / (hole - (pcT l q).2.2.2.2.1)) < 2147483648):=by
  obtain ⟨s1,s2,s3,s4⟩:=side_rng h.leg
  obtain ⟨_,n1,n2⟩:=h.leg
  obtain ⟨_,_,w2⟩:=h.tube.wet hc.mud.1 hc.mud.2
  have w1:0 ≤ wetS (pcT l q) c.2.1:=by omega
  obtain ⟨t1,t2⟩:=h.tube.sti
  unfold pressS
  generalize wetS (pcT l q) c.2.1 = w at *
  generalize (sideS (pcV p q)).1 = s at *
  generalize (wholeS (pcV p q)).1 = n at *
  generalize (pcT l q).2.2.2.2.2.2.2.1 = st at *
  generalize (pcT l q).2.2.2.2.1 = o at *
  have hn:0 < n:=by omega
  have e1:=mul_rng (a:=w) (b:=s) (A:=4000000) (B:=131072) w1 w2 s1 (by omega)
  have e2:0 ≤ w * s / n ∧ w * s / n ≤ 4000000:=by
    refine ⟨Int.ediv_nonneg e1.1 (by omega),?_⟩
    have h1:w * s ≤ w * n:=Int.mul_le_mul_of_nonneg_left s3 w1
    have h2:w * s / n ≤ w:=Int.ediv_le_of_le_mul hn h1
    omega
  generalize w * s / n = pr at *
  have e3:=mul_rng (a:=8 * st) (b:=pr) (A:=137438953472) (B:=4000000) (by omega) (by omega) e2.1 e2.2
  have e4:=div_rng (x:=8 * st * pr) (b:=hole - o) (M:=549755813888000000) (by omega) (by decide) (by omega) (by omega)
  have e5:0 ≤ 8 * st * pr / (hole - o):=Int.ediv_nonneg e3.1 (by omega)
  obtain ⟨q1,_,_⟩:=sqI_ok e5 (by omega)
  have q2:=sqI_lt e5 (by omega)
  exact ⟨hn,⟨w1,w2⟩,by omega,e2,⟨t1,t2⟩,by omega,by omega,q1,q2⟩
theorem any_wide {l:List Tb} (hole:Int) (hl:l.length ≠ 0):(l.any fun t => wideT hole t || decide (hole > 200)) = true ↔ (hole > 200 ∨ l.any (wideT hole) = true):=by
  simp only [List.any_eq_true,Bool.or_eq_true,decide_eq_true_eq]
  refine ⟨?_,?_⟩
  · rintro ⟨t,ht,h | h⟩
    · exact .inr ⟨t,ht,h⟩
    · exact .inl h
  · rintro (h | ⟨t,ht,h⟩)
    · cases l with
      | nil => exact absurd rfl hl
      | cons t r => exact ⟨t,List.mem_cons_self,.inr h⟩
    · exact ⟨t,ht,.inl h⟩
theorem loads_len2 {l:List Tb} {p:Pth} {c:Cs} (he:(loadsS l p c).2.2 = 0):(loadsS l p c).2.1.length = (pcsS l p).length:=by
  obtain ⟨hf,hc⟩:=loads_zero he
  rw [loadsS_eq hf hc] at he ⊢
  split at he
  · rename_i h; rw [if_pos h]; exact (runS_len _ _ _ _ _ _ h).2
  · cases he
def L_wide1:Lay:={ slots:=[(0,.agg tT),(1,.ptr 1 0)],boxes:=[(1,[.val tI])] }
theorem T_wide1 (t_0 t_1 t_2 t_3 t_4 t_5 t_6 t_7 t_8 ho:Int):mTree (P:=P) [] (lpOf []) Tryz.f49 L_wide1 true ((t_0,(t_1,(t_2,(t_3,(t_4,(t_5,(t_6,(t_7,t_8)))))))),(),ho,()) =
  Tree.leaf { res:=SV.bool (decide (ho ≤ t_4)),boxes:=[[SV.int IntKind.i64 ho]] }:=by kernel_rfl
def c_wide1:MC P:=MC.of (α:=Tb × Unit × Int × Unit) 49 L_wide1 (fun x => x) (fun x => x) (fun _ => rfl)
  (fun _ => none)
  (fun x => ⟨.bool (wideT x.2.2.1 x.1),[[.int .i64 x.2.2.1]],[]⟩) (by kernel_rfl) (by kernel_rfl) (by kernel_rfl) (by
    rintro ⟨⟨t_0,⟨t_1,⟨t_2,⟨t_3,⟨t_4,⟨t_5,⟨t_6,⟨t_7,t_8⟩⟩⟩⟩⟩⟩⟩⟩,⟨⟩,ho,⟨⟩⟩ hp
    refine m_of hm (own:=true) (by kernel_rfl) (by kernel_rfl) (by kernel_rfl) (T_wide1 t_0 t_1 t_2 t_3 t_4 t_5 t_6 t_7 t_8 ho) trivial ?_
    exact rfl)
def L_ixW0:Lay:={ slots:=[(0,.val (.sl tT)),(1,.clo 49 [(1,0)])],boxes:=[(1,[.val tI])] }
def L_ixWL:Lay:={ slots:=[(0,.val (.sl tT)),(1,.clo 49 [(1,0)]),(7,.val tI),(8,.val tI)],boxes:=[(1,[.val tI])] }
def L_ixWL_0:Lay:={ slots:=[],boxes:=[(1,[.val tI])] }
def L_ixWL_1:Lay:={ slots:=[(4,.val tI)],boxes:=[(1,[.val tI])] }
def X_ixWL:Exit → St → Option Lay
  | .exit 0,_ => some L_ixWL_0
  | .ret,_ => some L_ixWL_1
  | _,_ => none
abbrev C_ixWL:Code:=loopC (bodyOf Tryz.f76) 0
theorem B_ixWL (l:List Tb) (n i:Int) (ho:Int):loopBodyA (P:=P) [c_wide1.gc] (lpOf []) [] 19 (usd noU (L_ixW0.ids ++ rowIds rowBase L_ixW0.shs)) (inner C_ixWL) L_ixWL X_ixWL (α:=List Tb × Unit × Int × Int × Int × Unit) (fun x => x) (fun x => x) (l,(),n,i,ho,()) =
  Tree.cond (decide (i < n)) (.need ((0:Int) ≤ i ∧ i < (l.length:Int)) (.cond (wideT ho (List.getD l (Int.toNat i) (0,0,0,0,0,0,0,0,0))) (.leaf (Sum.inr (Exit.ret,Lay.st L_ixWL_1 (usd noU (Lay.ids L_ixW0 ++ rowIds rowBase (Lay.shs L_ixW0))) (i,ho,())))) (.leaf (Sum.inl (l,(),n,IntKind.i64.wrap (i + (1:Int)),ho,()))))) (.leaf (Sum.inr (Exit.exit (0:Nat),Lay.st L_ixWL_0 (usd noU (Lay.ids L_ixW0 ++ rowIds rowBase (Lay.shs L_ixW0))) (ho,())))):=by kernel_rfl
def inv_ixWL:List Tb × Unit × Int × Int × Int × Unit → Prop:=fun (l,_,n,i,ho,_) => n = l.length ∧ 0 ≤ i ∧ i ≤ n ∧ (l.length:Int) < 2 ^ 62
def O_ixWL:List Tb × Unit × Int × Int × Int × Unit → Tree (Exit × St):=fun (l,_,n,i,ho,_) => .cond ((l.drop i.toNat).any (wideT ho)) (.leaf (.ret,L_ixWL_1.st (usd noU (L_ixW0.ids ++ rowIds rowBase L_ixW0.shs)) (ixR (wideT ho) l i,ho,()))) (.leaf (.exit 0,L_ixWL_0.st (usd noU (L_ixW0.ids ++ rowIds rowBase L_ixW0.shs)) (ho,())))
def R_ixWL:LRun:=runOf 19 L_ixWL (fun x => x) (inv_ixWL) (O_ixWL)
theorem K_ixWL:LoopOk P [] 19 none (usd noU (L_ixW0.ids ++ rowIds rowBase L_ixW0.shs)) C_ixWL (R_ixWL):=by
  refine loop_of hm (cx:=[c_wide1.gc]) [] (xl:=X_ixWL) (α:=List Tb × Unit × Int × Int × Int × Unit) (fun x => x) (fun (l,_,n,i,ho,_) => (n - i).toNat) (fun _ => rfl) (by kernel_rfl) (by kernel_rfl) ?_ (by kernel_rfl) trivial ?_
  · intro e S L' h
    unfold X_ixWL at h
    split at h <;> first | (cases h; done) | (cases h; kernel_rfl) | (rcases bif_some h with h | h <;> cases h <;> kernel_rfl)
  · rintro ⟨l,⟨⟩,n,i,ho,⟨⟩⟩ hinv Q hQ
    refine hold_of_eq (B_ixWL l n i ho) ?_
    obtain ⟨rfl,h0,h1,h2⟩:=hinv
    rw [W_id (n:=i + 1) (by omega) (by omega)]
    unfold O_ixWL at hQ
    dsimp only at hQ
    refine ⟨fun hi => ?_,fun hi => ?_⟩
    · simp only [decide_eq_true_eq] at hi
      have hm:((l.length:Int) - (i + 1)).toNat < ((l.length:Int) - i).toNat:=by omega
      obtain ⟨e1,e2,e3⟩:=ix_step (p:=wideT ho) (zT:Tb) h0 hi
      rw [e1] at hQ
      refine ⟨⟨h0,hi⟩,fun hp => ?_,fun hp => ?_⟩
      · replace hp:(wideT ho) (l.getD i.toNat (zT:Tb)) = true:=hp
        rw [hp,Bool.true_or,e2 hp] at hQ
        exact hQ.1 rfl
      · replace hp:(wideT ho) (l.getD i.toNat (zT:Tb)) = false:=hp
        rw [hp,Bool.false_or,e3 hp] at hQ
        exact ⟨⟨⟨rfl,by omega,by omega,h2⟩,hm⟩,hQ⟩
    · simp only [decide_eq_false_iff_not] at hi
      rw [drop_end hi] at hQ
      exact hQ.2 rfl
def L_ixW:Lay:={ slots:=[(0,.val (.sl tT)),(1,.clo 49 [(1,0)])],boxes:=[(1,[.val tI])] }
theorem T_ixW (l:List Tb) (ho:Int):mTree (P:=P) [] (lpOf [(0,R_ixWL)]) Tryz.f76 L_ixW true (l,(),ho,()) =
  Tree.need (inv_ixWL (l,(),(l.length:Int),(0:Int),ho,())) (.cond (List.any (List.drop (Int.toNat (0:Int)) l) (wideT ho)) (.leaf { res:=SV.int IntKind.i64 (ixR (wideT ho) l (0:Int)),boxes:=[[SV.int IntKind.i64 ho]] }) (.leaf { res:=SV.int IntKind.i64 (-1:Int),boxes:=[[SV.int IntKind.i64 ho]] })):=by kernel_rfl
def c_ixW:MC P:=MC.of (α:=List Tb × Unit × Int × Unit) 76 L_ixW (fun x => x) (fun x => x) (fun _ => rfl)
  (fun (l,_,ho,_) => some ((l.length:Int) < 2 ^ 62))
  (fun (l,_,ho,_) => ⟨.int .i64 (ixS (wideT ho) l),[[.int .i64 ho]],[]⟩) (by kernel_rfl) (by kernel_rfl) (by kernel_rfl) (by
    rintro ⟨l,⟨⟩,ho,⟨⟩⟩ hp
    refine m_of hm (own:=true) (by kernel_rfl) (by kernel_rfl) (by kernel_rfl) (T_ixW l ho) ⟨K_ixWL,trivial⟩ ?_
    refine ⟨⟨rfl,by omega,by omega,hp⟩,fun h => ?_,fun h => ?_⟩
    · simp only [Int.toNat_zero,List.drop_zero] at h
      have e:ixR (wideT ho) l 0 = ixS (wideT ho) l:=by
        unfold ixS ixR
        rw [if_pos h]
        simp only [Int.toNat_zero,List.drop_zero,Int.zero_add]
      exact congrArg (fun k:Int => (⟨.int .i64 k,[[.int .i64 ho]],[]⟩ : MOut)) e
    · simp only [Int.toNat_zero,List.drop_zero] at h
      have e : -1 = ixS (wideT ho) l:=by
        unfold ixS
        rw [if_neg (by simp only [h]; decide)]
      exact congrArg (fun k:Int => (⟨.int .i64 k,[[.int .i64 ho]],[]⟩ : MOut)) e)
def L_ixWC:Lay:={ slots:=[(0,.val (.sl tT)),(1,.clo 49 [(1,0)])],boxes:=[(1,[.val tI])] }
theorem T_ixWC (l:List Tb) (ho:Int):mTree (P:=P) [c_ixW.gc] (lpOf []) Tryz.f41 L_ixWC true (l,(),ho,()) =
  Tree.need ((l.length:Int) < (2:Int) ^ (62:Nat)) (.leaf { res:=SV.bool (decide (ixS (wideT ho) l ≥ (0:Int))),boxes:=[[SV.int IntKind.i64 ho]] }):=by kernel_rfl
def c_ixWC:MC P:=MC.of (α:=List Tb × Unit × Int × Unit) 41 L_ixWC (fun x => x) (fun x => x) (fun _ => rfl)
  (fun (l,_,ho,_) => some ((l.length:Int) < 2 ^ 62))
  (fun (l,_,ho,_) => ⟨.bool (l.any (wideT ho)),[[.int .i64 ho]],[]⟩) (by kernel_rfl) (by kernel_rfl) (by kernel_rfl) (by
    rintro ⟨l,⟨⟩,ho,⟨⟩⟩ hp
    refine m_of hm (own:=true) (by kernel_rfl) (by kernel_rfl) (by kernel_rfl) (T_ixWC l ho) trivial ?_
    exact ⟨hp,congrArg (fun k:Bool => (⟨.bool k,[[.int .i64 ho]],[]⟩ : MOut)) (ixS_ge (wideT ho) l)⟩)
def L_BucklesL:Lay:={ slots:=[(4,.ptr 5126 0),(5,.ptr 6126 0),(6,.ptr 7126 0),(7,.ptr 8126 0),(10,.val (.sl (.pair tI (.pair tPart tPart)))),(11,.val (.sl tPart)),(13,.row 3 tI),(43,.val (.sl (.pair tI tV))),(44,.val tI),(45,.val tI)],boxes:=[(5126,[.val tTs]),(6126,[.val tI,.val tI,.val tI,.val tVs]),(7126,[.val tI,.val tI,.val tI,.val tI,.val tI]),(8126,[.val tI])] }
def L_BucklesL_0:Lay:={ slots:=[(13,.row 3 tI)] }
def X_BucklesL:Exit → St → Option Lay
  | .exit 0,_ => some L_BucklesL_0
  | _,_ => none
abbrev C_BucklesL:Code:=loopC (bodyOf Tryz.f21) 0
theorem B_BucklesL (a:List (Int × ((Int × Int) × (Int × Int)))) (b:List (Int × Int)) (o:List Int) (m:List (Int × V)) (n i:Int) (l:List Tb) (p0 p1 p2:Int) (ps:List V) (c0 c1 c2 c3 c4 hole:Int):loopBodyA (P:=P) [c_root.gc,c_Wet.gc,c_Side.gc,c_down.gc,c_proot.gc] (lpOf []) [] 126 noU (inner C_BucklesL) L_BucklesL X_BucklesL (α:=Unit × Unit × Unit × Unit × List (Int × ((Int × Int) × (Int × Int))) × List (Int × Int) × List Int × List (Int × V) × Int × Int × List Tb × Int × Int × Int × List V × Int × Int × Int × Int × Int × Int × Unit) (fun x => x) (fun x => x) ((),(),(),(),a,b,o,m,n,i,l,p0,p1,p2,ps,c0,c1,c2,c3,c4,hole,()) =
  Tree.cond (decide (i < n)) (.need ((0:Int) ≤ i ∧ i < (m.length:Int)) (.need ((0:Int) ≤ (List.getD m (Int.toNat i) (0,0,0,0)).fst ∧ (List.getD m (Int.toNat i) (0,0,0,0)).fst < (l.length:Int)) (.need ((0:Int) ≤ (List.getD m (Int.toNat i) (0,0,0,0)).snd.fst ∧ (List.getD m (Int.toNat i) (0,0,0,0)).snd.fst < (ps.length:Int)) (.need ((0:Int) < (rootS (IntKind.i64.wrap (IntKind.i64.wrap (IntKind.i64.wrap ((List.getD ps (Int.toNat (List.getD m (Int.toNat i) ((0:Int),(0:Int),(0:Int),(0:Int))).snd.fst) (0,0,0)).fst * (List.getD ps (Int.toNat (List.getD m (Int.toNat i) ((0:Int),(0:Int),(0:Int),(0:Int))).snd.fst) (0,0,0)).fst) + IntKind.i64.wrap ((List.getD ps (Int.toNat (List.getD m (Int.toNat i) ((0:Int),(0:Int),(0:Int),(0:Int))).snd.fst) (0,0,0)).snd.fst * (List.getD ps (Int.toNat (List.getD m (Int.toNat i) ((0:Int),(0:Int),(0:Int),(0:Int))).snd.fst) (0,0,0)).snd.fst)) + IntKind.i64.wrap ((List.getD ps (Int.toNat (List.getD m (Int.toNat i) ((0:Int),(0:Int),(0:Int),(0:Int))).snd.fst) (0,0,0)).snd.snd * (List.getD ps (Int.toNat (List.getD m (Int.toNat i) ((0:Int),(0:Int),(0:Int),(0:Int))).snd.fst) (0,0,0)).snd.snd)))).fst ∧ (-9223372036854775808:Int) < IntKind.i64.wrap (wetS (List.getD l (Int.toNat (List.getD m (Int.toNat i) ((0:Int),(0:Int),(0:Int),(0:Int))).fst) (0,0,0,0,0,0,0,0,0)) c1 * (sideS (List.getD ps (Int.toNat (List.getD m (Int.toNat i) ((0:Int),(0:Int),(0:Int),(0:Int))).snd.fst) (0,0,0))).fst) ∧ IntKind.i64.wrap (wetS (List.getD l (Int.toNat (List.getD m (Int.toNat i) ((0:Int),(0:Int),(0:Int),(0:Int))).fst) (0,0,0,0,0,0,0,0,0)) c1 * (sideS (List.getD ps (Int.toNat (List.getD m (Int.toNat i) ((0:Int),(0:Int),(0:Int),(0:Int))).snd.fst) (0,0,0))).fst) ≤ (9223372036854775807:Int)) (.need (IntKind.i64.wrap (hole - (List.getD l (Int.toNat (List.getD m (Int.toNat i) ((0:Int),(0:Int),(0:Int),(0:Int))).fst) (0,0,0,0,0,0,0,0,0)).snd.snd.snd.snd.fst) ≠ (0:Int)) (.need ((0:Int) ≤ IntKind.i64.wrap (Int.tdiv (IntKind.i64.wrap (IntKind.i64.wrap ((8:Int) * (List.getD l (Int.toNat (List.getD m (Int.toNat i) ((0:Int),(0:Int),(0:Int),(0:Int))).fst) (0,0,0,0,0,0,0,0,0)).snd.snd.snd.snd.snd.snd.snd.fst) * (IntKind.i64.wrap (wetS (List.getD l (Int.toNat (List.getD m (Int.toNat i) ((0:Int),(0:Int),(0:Int),(0:Int))).fst) (0,0,0,0,0,0,0,0,0)) c1 * (sideS (List.getD ps (Int.toNat (List.getD m (Int.toNat i) ((0:Int),(0:Int),(0:Int),(0:Int))).snd.fst) (0,0,0))).fst) / (rootS (IntKind.i64.wrap (IntKind.i64.wrap (IntKind.i64.wrap ((List.getD ps (Int.toNat (List.getD m (Int.toNat i) ((0:Int),(0:Int),(0:Int),(0:Int))).snd.fst) (0,0,0)).fst * (List.getD ps (Int.toNat (List.getD m (Int.toNat i) ((0:Int),(0:Int),(0:Int),(0:Int))).snd.fst) (0,0,0)).fst) + IntKind.i64.wrap ((List.getD ps (Int.toNat (List.getD m (Int.toNat i) ((0:Int),(0:Int),(0:Int),(0:Int))).snd.fst) (0,0,0)).snd.fst * (List.getD ps (Int.toNat (List.getD m (Int.toNat i) ((0:Int),(0:Int),(0:Int),(0:Int))).snd.fst) (0,0,0)).snd.fst)) + IntKind.i64.wrap ((List.getD ps (Int.toNat (List.getD m (Int.toNat i) ((0:Int),(0:Int),(0:Int),(0:Int))).snd.fst) (0,0,0)).snd.snd * (List.getD ps (Int.toNat (List.getD m (Int.toNat i) ((0:Int),(0:Int),(0:Int),(0:Int))).snd.fst) (0,0,0)).snd.snd)))).fst))) (IntKind.i64.wrap (hole - (List.getD l (Int.toNat (List.getD m (Int.toNat i) ((0:Int),(0:Int),(0:Int),(0:Int))).fst) (0,0,0,0,0,0,0,0,0)).snd.snd.snd.snd.fst))) ∧ IntKind.i64.wrap (Int.tdiv (IntKind.i64.wrap (IntKind.i64.wrap ((8:Int) * (List.getD l (Int.toNat (List.getD m (Int.toNat i) ((0:Int),(0:Int),(0:Int),(0:Int))).fst) (0,0,0,0,0,0,0,0,0)).snd.snd.snd.snd.snd.snd.snd.fst) * (IntKind.i64.wrap (wetS (List.getD l (Int.toNat (List.getD m (Int.toNat i) ((0:Int),(0:Int),(0:Int),(0:Int))).fst) (0,0,0,0,0,0,0,0,0)) c1 * (sideS (List.getD ps (Int.toNat (List.getD m (Int.toNat i) ((0:Int),(0:Int),(0:Int),(0:Int))).snd.fst) (0,0,0))).fst) / (rootS (IntKind.i64.wrap (IntKind.i64.wrap (IntKind.i64.wrap ((List.getD ps (Int.toNat (List.getD m (Int.toNat i) ((0:Int),(0:Int),(0:Int),(0:Int))).snd.fst) (0,0,0)).fst * (List.getD ps (Int.toNat (List.getD m (Int.toNat i) ((0:Int),(0:Int),(0:Int),(0:Int))).snd.fst) (0,0,0)).fst) + IntKind.i64.wrap ((List.getD ps (Int.toNat (List.getD m (Int.toNat i) ((0:Int),(0:Int),(0:Int),(0:Int))).snd.fst) (0,0,0)).snd.fst * (List.getD ps (Int.toNat (List.getD m (Int.toNat i) ((0:Int),(0:Int),(0:Int),(0:Int))).snd.fst) (0,0,0)).snd.fst)) + IntKind.i64.wrap ((List.getD ps (Int.toNat (List.getD m (Int.toNat i) ((0:Int),(0:Int),(0:Int),(0:Int))).snd.fst) (0,0,0)).snd.snd * (List.getD ps (Int.toNat (List.getD m (Int.toNat i) ((0:Int),(0:Int),(0:Int),(0:Int))).snd.fst) (0,0,0)).snd.snd)))).fst))) (IntKind.i64.wrap (hole - (List.getD l (Int.toNat (List.getD m (Int.toNat i) ((0:Int),(0:Int),(0:Int),(0:Int))).fst) (0,0,0,0,0,0,0,0,0)).snd.snd.snd.snd.fst))) < (4611686018427387904:Int)) (.need ((0:Int) ≤ i ∧ i < (b.length:Int)) (.need ((0:Int) ≤ i ∧ i < (a.length:Int)) (.cond (decide (minI (List.getD b (Int.toNat i) (0,0)).fst (List.getD a (Int.toNat i) (0,(0,0),0,0)).snd.fst.fst < IntKind.i64.wrap ((0:Int) - IntKind.i64.wrap ((1000:Int) * sqI (IntKind.i64.wrap (Int.tdiv (IntKind.i64.wrap (IntKind.i64.wrap ((8:Int) * (List.getD l (Int.toNat (List.getD m (Int.toNat i) ((0:Int),(0:Int),(0:Int),(0:Int))).fst) (0,0,0,0,0,0,0,0,0)).snd.snd.snd.snd.snd.snd.snd.fst) * (IntKind.i64.wrap (wetS (List.getD l (Int.toNat (List.getD m (Int.toNat i) ((0:Int),(0:Int),(0:Int),(0:Int))).fst) (0,0,0,0,0,0,0,0,0)) c1 * (sideS (List.getD ps (Int.toNat (List.getD m (Int.toNat i) ((0:Int),(0:Int),(0:Int),(0:Int))).snd.fst) (0,0,0))).fst) / (rootS (IntKind.i64.wrap (IntKind.i64.wrap (IntKind.i64.wrap ((List.getD ps (Int.toNat (List.getD m (Int.toNat i) ((0:Int),(0:Int),(0:Int),(0:Int))).snd.fst) (0,0,0)).fst * (List.getD ps (Int.toNat (List.getD m (Int.toNat i) ((0:Int),(0:Int),(0:Int),(0:Int))).snd.fst) (0,0,0)).fst) + IntKind.i64.wrap ((List.getD ps (Int.toNat (List.getD m (Int.toNat i) ((0:Int),(0:Int),(0:Int),(0:Int))).snd.fst) (0,0,0)).snd.fst * (List.getD ps (Int.toNat (List.getD m (Int.toNat i) ((0:Int),(0:Int),(0:Int),(0:Int))).snd.fst) (0,0,0)).snd.fst)) + IntKind.i64.wrap ((List.getD ps (Int.toNat (List.getD m (Int.toNat i) ((0:Int),(0:Int),(0:Int),(0:Int))).snd.fst) (0,0,0)).snd.snd * (List.getD ps (Int.toNat (List.getD m (Int.toNat i) ((0:Int),(0:Int),(0:Int),(0:Int))).snd.fst) (0,0,0)).snd.snd)))).fst))) (IntKind.i64.wrap (hole - (List.getD l (Int.toNat (List.getD m (Int.toNat i) ((0:Int),(0:Int),(0:Int),(0:Int))).fst) (0,0,0,0,0,0,0,0,0)).snd.snd.snd.snd.fst)))))))) (.need ((List.length o + List.length [i]) * (8:Nat) ≤ (140737488355328:Nat)) (.leaf (Sum.inl ((),(),(),(),a,b,o ++ [i],m,n,IntKind.i64.wrap (i + (1:Int)),l,p0,p1,p2,ps,c0,c1,c2,c3,c4,hole,())))) (.leaf (Sum.inl ((),(),(),(),a,b,o,m,n,IntKind.i64.wrap (i + (1:Int)),l,p0,p1,p2,ps,c0,c1,c2,c3,c4,hole,())))))))))))) (.leaf (Sum.inr (Exit.exit (0:Nat),Lay.st L_BucklesL_0 noU (o,())))):=by kernel_rfl
def inv_BucklesL:Unit × Unit × Unit × Unit × List (Int × ((Int × Int) × (Int × Int))) × List (Int × Int) × List Int × List (Int × V) × Int × Int × List Tb × Int × Int × Int × List V × Int × Int × Int × Int × Int × Int × Unit → Prop:=fun ((),(),(),(),a,b,o,m,n,i,l,p0,p1,p2,ps,c0,c1,c2,c3,c4,hole,()) => (fitsS l ((p0,p1,p2),ps) = 0 ∧ caseS l (c0,c1,(c2,c3),c4) = 0 ∧ m = pcsS l ((p0,p1,p2),ps)) ∧ n = m.length ∧ (0 ≤ i ∧ i ≤ m.length ∧ (o.length:Int) ≤ i) ∧ (m.length = a.length ∧ m.length = b.length ∧ m.length ≤ 160) ∧ hole ≤ 200 ∧ (∀ t ∈ l,t.2.2.2.2.1 < hole)
def O_BucklesL:Unit × Unit × Unit × Unit × List (Int × ((Int × Int) × (Int × Int))) × List (Int × Int) × List Int × List (Int × V) × Int × Int × List Tb × Int × Int × Int × List V × Int × Int × Int × Int × Int × Int × Unit → Tree (Exit × St):=fun ((),(),(),(),a,b,o,m,n,i,l,p0,p1,p2,ps,c0,c1,c2,c3,c4,hole,()) => (.leaf (.exit 0,L_BucklesL_0.st noU ((bkL l ((p0,p1,p2),ps) (c0,c1,(c2,c3),c4) hole a b (m.drop i.toNat) i o),())))
def R_BucklesL:LRun:=runOf 126 L_BucklesL (fun x => x) (inv_BucklesL) (O_BucklesL)
theorem K_BucklesL:LoopOk P [] 126 none noU C_BucklesL (R_BucklesL):=by
  refine loop_of hm (cx:=[c_root.gc,c_Wet.gc,c_Side.gc,c_down.gc,c_proot.gc]) [] (xl:=X_BucklesL) (α:=Unit × Unit × Unit × Unit × List (Int × ((Int × Int) × (Int × Int))) × List (Int × Int) × List Int × List (Int × V) × Int × Int × List Tb × Int × Int × Int × List V × Int × Int × Int × Int × Int × Int × Unit) (fun x => x) (fun ((),(),(),(),a,b,o,m,n,i,l,p0,p1,p2,ps,c0,c1,c2,c3,c4,hole,()) => ((m.length:Int) - i).toNat) (fun _ => rfl) (by kernel_rfl) (by kernel_rfl) ?_ (by kernel_rfl) trivial ?_
  · intro e S L' h
    unfold X_BucklesL at h
    split at h <;> first | (cases h; done) | (cases h; kernel_rfl) | (rcases bif_some h with h | h <;> cases h <;> kernel_rfl)
  · rintro ⟨⟨⟩,⟨⟩,⟨⟩,⟨⟩,a,b,o,m,n,i,l,p0,p1,p2,ps,c0,c1,c2,c3,c4,hole,⟨⟩⟩ hinv Q hQ
    refine hold_of_eq (B_BucklesL a b o m n i l p0 p1 p2 ps c0 c1 c2 c3 c4 hole) ?_
    obtain ⟨⟨hf,hc,hm⟩,rfl,⟨h0,h1,ho⟩,⟨ha,hb,hl⟩,hh,ht⟩:=hinv
    unfold O_BucklesL at hQ
    dsimp only at hQ
    rw [W_id (n:=i + 1) (by omega) (by omega)]
    refine ⟨fun d1 => ?_,fun d1 => ?_⟩
    · have d1:i < (m.length:Int):=of_decide_eq_true d1
      have hcase:=(caseS_ok hc).2
      have hpc:PcOk l ((p0,p1,p2),ps) (c0,c1,(c2,c3),c4) (m.getD i.toNat (0,0,0,0)):=by
        rw [hm]; exact pcs_ok hf hc h0 (by rw [← hm]; exact d1)
      have hqm:m.getD i.toNat (0,0,0,0) ∈ pcsS l ((p0,p1,p2),ps):=by rw [← hm]; exact mem_getD h0 d1
      have hqi:=pcsS_idx hqm
      have hql:=pcsS_leg hf hqm
      have htm:pcT l (m.getD i.toNat (0,0,0,0)) ∈ l:=mem_getD hqi.1 hqi.2
      clear hqm
      rw [bkL_step h0 d1] at hQ
      generalize m.getD i.toNat (0,0,0,0) = q at *
      obtain ⟨k1,k2,k3,k4,k5,k6,k7,k8⟩:=crit_ok hpc hcase hh (ht _ htm) (hcase.wet _ htm)
      have hout:=ht _ htm
      have hou:=hpc.tube.out
      have hleg:=hpc.leg
      clear htm hpc
      unfold critS at hQ
      unfold pressS at hQ k4 k6 k7 k8
      have eT:l.getD q.1.toNat (0,0,0,0,0,0,0,0,0) = pcT l q:=rfl
      have eV:ps.getD q.2.1.toNat (0,0,0) = pcV ((p0,p1,p2),ps) q:=rfl
      rw [eT,eV]
      clear eT eV
      generalize pcT l q = t at *
      generalize pcV ((p0,p1,p2),ps) q = v at *
      have eR:=root_leg hleg
      unfold vdot at eR
      rw [eR]
      clear eR
      dsimp only at hQ k2 k3 k4 k6 k7 k8
      rw [W_id (n:=wetS t c1 * (sideS v).1) (by omega) (by omega)]
      generalize hpr:wetS t c1 * (sideS v).1 / (wholeS v).1 = pr at *
      rw [W_id (n:=8 * t.2.2.2.2.2.2.2.1) (by omega) (by omega),W_id (n:=8 * t.2.2.2.2.2.2.2.1 * pr) (by omega) (by omega),W_id (n:=hole - t.2.2.2.2.1) (by omega) (by omega)]
      rw [Int.tdiv_eq_ediv_of_nonneg k6.1,W_id (n:=8 * t.2.2.2.2.2.2.2.1 * pr / (hole - t.2.2.2.2.1)) (by omega) (by omega)]
      have k9:hole - t.2.2.2.2.1 ≠ 0:=by omega
      have k10:0 ≤ 8 * t.2.2.2.2.2.2.2.1 * pr / (hole - t.2.2.2.2.1) ∧ 8 * t.2.2.2.2.2.2.2.1 * pr / (hole - t.2.2.2.2.1) < 4611686018427387904:=by omega
      generalize sqI (8 * t.2.2.2.2.2.2.2.1 * pr / (hole - t.2.2.2.2.1)) = r at *
      rw [W_id (n:=1000 * r) (by omega) (by omega),W_id (n:=0 - 1000 * r) (by omega) (by omega)]
      refine ⟨⟨h0,d1⟩,hqi,hql,⟨k1,by omega,by omega⟩,k9,k10,⟨h0,by omega⟩,⟨h0,by omega⟩,fun d2 => ?_,fun d2 => ?_⟩
      · rw [if_pos (of_decide_eq_true d2)] at hQ
        exact ⟨by simp only [List.length_cons,List.length_nil]; omega,⟨⟨⟨hf,hc,hm⟩,rfl,⟨by omega,by omega,by simp only [List.length_append,List.length_cons,List.length_nil]; omega⟩,⟨ha,hb,hl⟩,hh,ht⟩,by show ((m.length:Int) - (i + 1)).toNat < ((m.length:Int) - i).toNat; omega⟩,hQ⟩
      · rw [if_neg (of_decide_eq_false d2)] at hQ
        exact ⟨⟨⟨⟨hf,hc,hm⟩,rfl,⟨by omega,by omega,by omega⟩,⟨ha,hb,hl⟩,hh,ht⟩,by show ((m.length:Int) - (i + 1)).toNat < ((m.length:Int) - i).toNat; omega⟩,hQ⟩
    · have d1:=of_decide_eq_false d1
      rw [drop_end d1] at hQ
      exact hQ
theorem T_Buckles (l_0:List Tb) (p_0 p_1 p_2:Int) (p_3:List V) (c_0 c_1 c_2 c_3 c_4 hole:Int):fnTree (P:=P) [c_loads.gc,c_Pieces.gc,c_ixWC.gc] (lpOf [(0,R_BucklesL)]) Tryz.f21 (encL 0 [.agg tTs,.agg (.pair tV tVs),.agg (.pair tI (.pair tI (.pair tPart tI))),.val tI] (l_0,((p_0,(p_1,p_2)),p_3),(c_0,(c_1,((c_2,c_3),c_4))),hole,())) =
  Tree.need ((l_0.length:Int) < (2:Int) ^ (62:Nat)) (.cond ((loadsS l_0 ((p_0,p_1,p_2),p_3) (c_0,c_1,(c_2,c_3),c_4)).snd.snd != (0:Int)) (.leaf (SV.tup [SV.nils,SV.int IntKind.i64 (loadsS l_0 ((p_0,p_1,p_2),p_3) (c_0,c_1,(c_2,c_3),c_4)).snd.snd])) (.cond (decide (hole > (200:Int))) (.leaf (SV.tup [SV.nils,SV.int IntKind.i64 (2:Int)])) (.need ((l_0.length:Int) < (2:Int) ^ (62:Nat)) (.cond (List.any l_0 (wideT hole)) (.leaf (SV.tup [SV.nils,SV.int IntKind.i64 (2:Int)])) (.need ((l_0.length:Int) < (2:Int) ^ (62:Nat)) (.need (inv_BucklesL ((),(),(),(),(loadsS l_0 ((p_0,p_1,p_2),p_3) (c_0,c_1,(c_2,c_3),c_4)).fst,(loadsS l_0 ((p_0,p_1,p_2),p_3) (c_0,c_1,(c_2,c_3),c_4)).snd.fst,[],pcsS l_0 ((p_0,p_1,p_2),p_3),(↑(List.length (pcsS l_0 ((p_0,p_1,p_2),p_3))):Int),(0:Int),l_0,p_0,p_1,p_2,p_3,c_0,c_1,c_2,c_3,c_4,hole,())) (.leaf (SV.tup [SV.sl (Ty.int IntKind.i64) (bkL l_0 ((p_0,p_1,p_2),p_3) (c_0,c_1,(c_2,c_3),c_4) hole (loadsS l_0 ((p_0,p_1,p_2),p_3) (c_0,c_1,(c_2,c_3),c_4)).fst (loadsS l_0 ((p_0,p_1,p_2),p_3) (c_0,c_1,(c_2,c_3),c_4)).snd.fst (List.drop (Int.toNat (0:Int)) (pcsS l_0 ((p_0,p_1,p_2),p_3))) (0:Int) []),SV.int IntKind.i64 (0:Int)])))))))):=by kernel_rfl
def c_Buckles:PC P:=PC.of (α:=List Tb × (V × List V) × (Int × (Int × ((Int × Int) × Int))) × Int × Unit) 21 [.agg tTs,.agg (.pair tV tVs),.agg (.pair tI (.pair tI (.pair tPart tI))),.val tI] (fun x => x) (fun x => x) (fun _ => rfl)
  (fun x => some ((x.1.length:Int) < 2 ^ 62))
  (fun x => .tup [.sl tI (bklS x.1 x.2.1 x.2.2.1 x.2.2.2.1).1,.int .i64 (bklS x.1 x.2.1 x.2.2.1 x.2.2.2.1).2]) (by kernel_rfl) (by
    rintro ⟨l_0,⟨⟨p_0,⟨p_1,p_2⟩⟩,p_3⟩,⟨c_0,⟨c_1,⟨⟨c_2,c_3⟩,c_4⟩⟩⟩,hole,⟨⟩⟩ hp
    refine fn_le hm (by kernel_rfl) (by kernel_rfl) (T_Buckles l_0 p_0 p_1 p_2 p_3 c_0 c_1 c_2 c_3 c_4 hole) ⟨K_BucklesL,trivial⟩ (by kernel_rfl) ?_
    try dsimp only at hp
    try dsimp only
    have h62:(l_0.length:Int) < 2 ^ 62:=hp
    show Tree.holds (fun s => LeS s (SV.tup [.sl tI (bklS l_0 ((p_0,p_1,p_2),p_3) (c_0,c_1,(c_2,c_3),c_4) hole).1,.int .i64 (bklS l_0 ((p_0,p_1,p_2),p_3) (c_0,c_1,(c_2,c_3),c_4) hole).2])) _
    unfold bklS
    refine ⟨h62,fun d1 => ?_,fun d1 => ⟨fun d2 => ?_,fun d2 => ⟨h62,fun d3 => ?_,fun d3 => ⟨h62,?_,?_⟩⟩⟩⟩
    · rw [if_pos (by simpa using d1)]; exact ⟨rfl,rfl,trivial⟩
    all_goals try rw [if_neg (show ¬ (loadsS l_0 ((p_0,p_1,p_2),p_3) (c_0,c_1,(c_2,c_3),c_4)).2.2 ≠ 0 by simpa using d1)]
    · rw [if_pos (.inl (of_decide_eq_true d2))]; exact ⟨rfl,rfl,trivial⟩
    · rw [if_pos (.inr d3)]; exact ⟨rfl,rfl,trivial⟩
    · have e:(loadsS l_0 ((p_0,p_1,p_2),p_3) (c_0,c_1,(c_2,c_3),c_4)).2.2 = 0:=by simpa using d1
      obtain ⟨q1,q2⟩:=loads_ok0 e
      obtain ⟨hf,hc⟩:=loads_zero e
      have d2:=of_decide_eq_false d2
      refine ⟨⟨hf,hc,rfl⟩,rfl,⟨by decide,by omega,by decide⟩,⟨q1.symm,(loads_len2 e).symm,q2⟩,by omega,fun t ht => ?_⟩
      have:=List.any_eq_false.1 d3 t ht
      simp only [wideT,decide_eq_true_eq] at this
      omega
    · rw [if_neg (by rintro (h | h); exact of_decide_eq_false d2 h; rw [d3] at h; cases h)]; exact ⟨rfl,rfl,trivial⟩)
def L_rBucklesE:Lay:={ slots:=[(3,.val tI),(4,.ptr 5138 0),(5,.ptr 6138 0),(6,.ptr 7138 0),(10,.val (.sl (.pair tI (.pair tPart tPart)))),(12,.val tI)],boxes:=[(5138,[.val tTs]),(6138,[.val tI,.val tI,.val tI,.val tVs]),(7138,[.val tI,.val tI,.val tI,.val tI,.val tI])] }
def L_rBucklesE_0:Lay:={ slots:=[(8,.val tIs),(9,.val tI)] }
def L_rBucklesE_1:Lay:={ slots:=[(3,.val tI),(4,.ptr 5138 0),(5,.ptr 6138 0),(6,.ptr 7138 0),(10,.val (.sl (.pair tI (.pair tPart tPart))))],boxes:=[(5138,[.val tTs]),(6138,[.val tI,.val tI,.val tI,.val tVs]),(7138,[.val tI,.val tI,.val tI,.val tI,.val tI])] }
def X_rBucklesE:Exit → St → Option Lay
  | .ret,_ => some L_rBucklesE_0
  | .exit 0,_ => some L_rBucklesE_1
  | _,_ => none
abbrev C_rBucklesE:Code:=loopC (bodyOf Tryz.f22) 0
theorem B_rBucklesE (hole:Int) (a:List (Int × ((Int × Int) × (Int × Int)))) (i:Int) (l:List Tb) (p0 p1 p2:Int) (ps:List V) (c0 c1 c2 c3 c4:Int):loopBodyA (P:=P) [] (lpOf []) [] 138 noU (inner C_rBucklesE) L_rBucklesE X_rBucklesE (α:=Int × Unit × Unit × Unit × List (Int × ((Int × Int) × (Int × Int))) × Int × List Tb × Int × Int × Int × List V × Int × Int × Int × Int × Int × Unit) (fun x => x) (fun x => x) (hole,(),(),(),a,i,l,p0,p1,p2,ps,c0,c1,c2,c3,c4,()) =
  Tree.cond (decide (i < (l.length:Int))) (.need ((0:Int) ≤ i ∧ i < (l.length:Int)) (.cond (decide (hole ≤ (List.getD l (Int.toNat i) (0,0,0,0,0,0,0,0,0)).snd.snd.snd.snd.fst)) (.leaf (Sum.inr (Exit.ret,Lay.st L_rBucklesE_0 noU ([],(2:Int),())))) (.cond (decide (hole > (200:Int))) (.leaf (Sum.inr (Exit.ret,Lay.st L_rBucklesE_0 noU ([],(2:Int),())))) (.leaf (Sum.inl (hole,(),(),(),a,IntKind.i64.wrap (i + (1:Int)),l,p0,p1,p2,ps,c0,c1,c2,c3,c4,())))))) (.leaf (Sum.inr (Exit.exit (0:Nat),Lay.st L_rBucklesE_1 noU (hole,(),(),(),a,l,p0,p1,p2,ps,c0,c1,c2,c3,c4,())))):=by kernel_rfl
def inv_rBucklesE:Int × Unit × Unit × Unit × List (Int × ((Int × Int) × (Int × Int))) × Int × List Tb × Int × Int × Int × List V × Int × Int × Int × Int × Int × Unit → Prop:=fun (hole,(),(),(),a,i,l,p0,p1,p2,ps,c0,c1,c2,c3,c4,()) => 0 ≤ i ∧ i ≤ l.length ∧ (l.length:Int) < 2 ^ 62
def O_rBucklesE:Int × Unit × Unit × Unit × List (Int × ((Int × Int) × (Int × Int))) × Int × List Tb × Int × Int × Int × List V × Int × Int × Int × Int × Int × Unit → Tree (Exit × St):=fun (hole,(),(),(),a,i,l,p0,p1,p2,ps,c0,c1,c2,c3,c4,()) => .cond ((l.drop i.toNat).any fun t => wideT hole t || decide (hole > 200)) (.leaf (.ret,L_rBucklesE_0.st noU ((([] : List Int)),((2:Int)),()))) (.leaf (.exit 0,L_rBucklesE_1.st noU (hole,(),(),(),a,l,p0,p1,p2,ps,c0,c1,c2,c3,c4,())))
def R_rBucklesE:LRun:=runOf 138 L_rBucklesE (fun x => x) (inv_rBucklesE) (O_rBucklesE)
theorem K_rBucklesE:LoopOk P [] 138 none noU C_rBucklesE (R_rBucklesE):=by
  refine loop_of hm (cx:=[]) [] (xl:=X_rBucklesE) (α:=Int × Unit × Unit × Unit × List (Int × ((Int × Int) × (Int × Int))) × Int × List Tb × Int × Int × Int × List V × Int × Int × Int × Int × Int × Unit) (fun x => x) (fun (hole,(),(),(),a,i,l,p0,p1,p2,ps,c0,c1,c2,c3,c4,()) => ((l.length:Int) - i).toNat) (fun _ => rfl) (by kernel_rfl) (by kernel_rfl) ?_ (by kernel_rfl) trivial ?_
  · intro e S L' h
    unfold X_rBucklesE at h
    split at h <;> first | (cases h; done) | (cases h; kernel_rfl) | (rcases bif_some h with h | h <;> cases h <;> kernel_rfl)
  · rintro ⟨hole,⟨⟩,⟨⟩,⟨⟩,a,i,l,p0,p1,p2,ps,c0,c1,c2,c3,c4,⟨⟩⟩ hinv Q hQ
    refine hold_of_eq (B_rBucklesE hole a i l p0 p1 p2 ps c0 c1 c2 c3 c4) ?_
    obtain ⟨h0,h1,h2⟩:=hinv
    rw [W_id (n:=i + 1) (by omega) (by omega)]
    unfold O_rBucklesE at hQ
    dsimp only at hQ
    refine ⟨fun d1 => ?_,fun d1 => ?_⟩
    · have d1:=of_decide_eq_true d1
      rw [drop_step zT h0 d1,List.any_cons] at hQ
      have eW:wideT hole (l.getD i.toNat zT) = decide (hole ≤ (l.getD i.toNat (0,0,0,0,0,0,0,0,0)).2.2.2.2.1):=rfl
      refine ⟨⟨h0,d1⟩,fun d2 => ?_,fun d2 => ⟨fun d3 => ?_,fun d3 => ?_⟩⟩
      · rw [eW,d2,Bool.true_or,Bool.true_or] at hQ
        exact hQ.1 rfl
      · rw [d3,Bool.or_true,Bool.true_or] at hQ
        exact hQ.1 rfl
      · have e:(wideT hole (l.getD i.toNat zT) || decide (hole > 200)) = false:=by rw [eW,d2,d3]; rfl
        rw [e,Bool.false_or] at hQ
        exact ⟨⟨⟨by omega,by omega,h2⟩,by show ((l.length:Int) - (i + 1)).toNat < ((l.length:Int) - i).toNat; omega⟩,hQ⟩
    · have d1:=of_decide_eq_false d1
      rw [drop_end d1] at hQ
      exact hQ.2 rfl
def L_rBucklesL:Lay:={ slots:=[(3,.val tI),(4,.ptr 5138 0),(5,.ptr 6138 0),(6,.ptr 7138 0),(10,.val (.sl (.pair tI (.pair tPart tPart)))),(14,.val (.sl tPart)),(16,.val (.sl (.pair tI tV))),(17,.row 3 tI),(18,.val tI)],boxes:=[(5138,[.val tTs]),(6138,[.val tI,.val tI,.val tI,.val tVs]),(7138,[.val tI,.val tI,.val tI,.val tI,.val tI])] }
def L_rBucklesL_0:Lay:={ slots:=[(17,.row 3 tI)] }
def X_rBucklesL:Exit → St → Option Lay
  | .exit 2,_ => some L_rBucklesL_0
  | _,_ => none
abbrev C_rBucklesL:Code:=loopC (bodyOf Tryz.f22) 2
theorem B_rBucklesL (hole:Int) (a:List (Int × ((Int × Int) × (Int × Int)))) (b:List (Int × Int)) (m:List (Int × V)) (o:List Int) (i:Int) (l:List Tb) (p0 p1 p2:Int) (ps:List V) (c0 c1 c2 c3 c4:Int):loopBodyA (P:=P) [c_rRoot.gc,c_rDot.gc,c_rWet.gc,c_rSide.gc,c_rdown.gc,c_rroot.gc] (lpOf []) [] 138 noU (inner C_rBucklesL) L_rBucklesL X_rBucklesL (α:=Int × Unit × Unit × Unit × List (Int × ((Int × Int) × (Int × Int))) × List (Int × Int) × List (Int × V) × List Int × Int × List Tb × Int × Int × Int × List V × Int × Int × Int × Int × Int × Unit) (fun x => x) (fun x => x) (hole,(),(),(),a,b,m,o,i,l,p0,p1,p2,ps,c0,c1,c2,c3,c4,()) =
  Tree.cond (decide (i < (m.length:Int))) (.need ((0:Int) ≤ i ∧ i < (m.length:Int)) (.need ((0:Int) ≤ (List.getD m (Int.toNat i) (0,0,0,0)).fst ∧ (List.getD m (Int.toNat i) (0,0,0,0)).fst < (l.length:Int)) (.need ((0:Int) ≤ i ∧ i < (m.length:Int)) (.need ((0:Int) ≤ (List.getD m (Int.toNat i) (0,0,0,0)).snd.fst ∧ (List.getD m (Int.toNat i) (0,0,0,0)).snd.fst < (ps.length:Int)) (.need ((0:Int) < (rootS (vdot (List.getD ps (Int.toNat (List.getD m (Int.toNat i) ((0:Int),(0:Int),(0:Int),(0:Int))).snd.fst) (0,0,0)) (List.getD ps (Int.toNat (List.getD m (Int.toNat i) ((0:Int),(0:Int),(0:Int),(0:Int))).snd.fst) (0,0,0)))).fst ∧ (-9223372036854775808:Int) < IntKind.i64.wrap (wetS (List.getD l (Int.toNat (List.getD m (Int.toNat i) ((0:Int),(0:Int),(0:Int),(0:Int))).fst) (0,0,0,0,0,0,0,0,0)) c1 * (sideS (List.getD ps (Int.toNat (List.getD m (Int.toNat i) ((0:Int),(0:Int),(0:Int),(0:Int))).snd.fst) (0,0,0))).fst) ∧ IntKind.i64.wrap (wetS (List.getD l (Int.toNat (List.getD m (Int.toNat i) ((0:Int),(0:Int),(0:Int),(0:Int))).fst) (0,0,0,0,0,0,0,0,0)) c1 * (sideS (List.getD ps (Int.toNat (List.getD m (Int.toNat i) ((0:Int),(0:Int),(0:Int),(0:Int))).snd.fst) (0,0,0))).fst) ≤ (9223372036854775807:Int)) (.need ((0:Int) < IntKind.i64.wrap (hole - (List.getD l (Int.toNat (List.getD m (Int.toNat i) ((0:Int),(0:Int),(0:Int),(0:Int))).fst) (0,0,0,0,0,0,0,0,0)).snd.snd.snd.snd.fst) ∧ (-9223372036854775808:Int) < IntKind.i64.wrap (IntKind.i64.wrap ((8:Int) * (List.getD l (Int.toNat (List.getD m (Int.toNat i) ((0:Int),(0:Int),(0:Int),(0:Int))).fst) (0,0,0,0,0,0,0,0,0)).snd.snd.snd.snd.snd.snd.snd.fst) * (IntKind.i64.wrap (wetS (List.getD l (Int.toNat (List.getD m (Int.toNat i) ((0:Int),(0:Int),(0:Int),(0:Int))).fst) (0,0,0,0,0,0,0,0,0)) c1 * (sideS (List.getD ps (Int.toNat (List.getD m (Int.toNat i) ((0:Int),(0:Int),(0:Int),(0:Int))).snd.fst) (0,0,0))).fst) / (rootS (vdot (List.getD ps (Int.toNat (List.getD m (Int.toNat i) ((0:Int),(0:Int),(0:Int),(0:Int))).snd.fst) (0,0,0)) (List.getD ps (Int.toNat (List.getD m (Int.toNat i) ((0:Int),(0:Int),(0:Int),(0:Int))).snd.fst) (0,0,0)))).fst)) ∧ IntKind.i64.wrap (IntKind.i64.wrap ((8:Int) * (List.getD l (Int.toNat (List.getD m (Int.toNat i) ((0:Int),(0:Int),(0:Int),(0:Int))).fst) (0,0,0,0,0,0,0,0,0)).snd.snd.snd.snd.snd.snd.snd.fst) * (IntKind.i64.wrap (wetS (List.getD l (Int.toNat (List.getD m (Int.toNat i) ((0:Int),(0:Int),(0:Int),(0:Int))).fst) (0,0,0,0,0,0,0,0,0)) c1 * (sideS (List.getD ps (Int.toNat (List.getD m (Int.toNat i) ((0:Int),(0:Int),(0:Int),(0:Int))).snd.fst) (0,0,0))).fst) / (rootS (vdot (List.getD ps (Int.toNat (List.getD m (Int.toNat i) ((0:Int),(0:Int),(0:Int),(0:Int))).snd.fst) (0,0,0)) (List.getD ps (Int.toNat (List.getD m (Int.toNat i) ((0:Int),(0:Int),(0:Int),(0:Int))).snd.fst) (0,0,0)))).fst)) ≤ (9223372036854775807:Int)) (.need ((0:Int) ≤ IntKind.i64.wrap (IntKind.i64.wrap ((8:Int) * (List.getD l (Int.toNat (List.getD m (Int.toNat i) ((0:Int),(0:Int),(0:Int),(0:Int))).fst) (0,0,0,0,0,0,0,0,0)).snd.snd.snd.snd.snd.snd.snd.fst) * (IntKind.i64.wrap (wetS (List.getD l (Int.toNat (List.getD m (Int.toNat i) ((0:Int),(0:Int),(0:Int),(0:Int))).fst) (0,0,0,0,0,0,0,0,0)) c1 * (sideS (List.getD ps (Int.toNat (List.getD m (Int.toNat i) ((0:Int),(0:Int),(0:Int),(0:Int))).snd.fst) (0,0,0))).fst) / (rootS (vdot (List.getD ps (Int.toNat (List.getD m (Int.toNat i) ((0:Int),(0:Int),(0:Int),(0:Int))).snd.fst) (0,0,0)) (List.getD ps (Int.toNat (List.getD m (Int.toNat i) ((0:Int),(0:Int),(0:Int),(0:Int))).snd.fst) (0,0,0)))).fst)) / IntKind.i64.wrap (hole - (List.getD l (Int.toNat (List.getD m (Int.toNat i) ((0:Int),(0:Int),(0:Int),(0:Int))).fst) (0,0,0,0,0,0,0,0,0)).snd.snd.snd.snd.fst) ∧ IntKind.i64.wrap (IntKind.i64.wrap ((8:Int) * (List.getD l (Int.toNat (List.getD m (Int.toNat i) ((0:Int),(0:Int),(0:Int),(0:Int))).fst) (0,0,0,0,0,0,0,0,0)).snd.snd.snd.snd.snd.snd.snd.fst) * (IntKind.i64.wrap (wetS (List.getD l (Int.toNat (List.getD m (Int.toNat i) ((0:Int),(0:Int),(0:Int),(0:Int))).fst) (0,0,0,0,0,0,0,0,0)) c1 * (sideS (List.getD ps (Int.toNat (List.getD m (Int.toNat i) ((0:Int),(0:Int),(0:Int),(0:Int))).snd.fst) (0,0,0))).fst) / (rootS (vdot (List.getD ps (Int.toNat (List.getD m (Int.toNat i) ((0:Int),(0:Int),(0:Int),(0:Int))).snd.fst) (0,0,0)) (List.getD ps (Int.toNat (List.getD m (Int.toNat i) ((0:Int),(0:Int),(0:Int),(0:Int))).snd.fst) (0,0,0)))).fst)) / IntKind.i64.wrap (hole - (List.getD l (Int.toNat (List.getD m (Int.toNat i) ((0:Int),(0:Int),(0:Int),(0:Int))).fst) (0,0,0,0,0,0,0,0,0)).snd.snd.snd.snd.fst) < (4611686018427387904:Int)) (.need ((0:Int) ≤ i ∧ i < (b.length:Int)) (.need ((0:Int) ≤ i ∧ i < (a.length:Int)) (.cond (decide (minI (List.getD b (Int.toNat i) (0,0)).fst (List.getD a (Int.toNat i) (0,(0,0),0,0)).snd.fst.fst < IntKind.i64.wrap ((0:Int) - IntKind.i64.wrap ((1000:Int) * sqI (IntKind.i64.wrap (IntKind.i64.wrap ((8:Int) * (List.getD l (Int.toNat (List.getD m (Int.toNat i) ((0:Int),(0:Int),(0:Int),(0:Int))).fst) (0,0,0,0,0,0,0,0,0)).snd.snd.snd.snd.snd.snd.snd.fst) * (IntKind.i64.wrap (wetS (List.getD l (Int.toNat (List.getD m (Int.toNat i) ((0:Int),(0:Int),(0:Int),(0:Int))).fst) (0,0,0,0,0,0,0,0,0)) c1 * (sideS (List.getD ps (Int.toNat (List.getD m (Int.toNat i) ((0:Int),(0:Int),(0:Int),(0:Int))).snd.fst) (0,0,0))).fst) / (rootS (vdot (List.getD ps (Int.toNat (List.getD m (Int.toNat i) ((0:Int),(0:Int),(0:Int),(0:Int))).snd.fst) (0,0,0)) (List.getD ps (Int.toNat (List.getD m (Int.toNat i) ((0:Int),(0:Int),(0:Int),(0:Int))).snd.fst) (0,0,0)))).fst)) / IntKind.i64.wrap (hole - (List.getD l (Int.toNat (List.getD m (Int.toNat i) ((0:Int),(0:Int),(0:Int),(0:Int))).fst) (0,0,0,0,0,0,0,0,0)).snd.snd.snd.snd.fst)))))) (.need ((List.length o + List.length [i]) * (8:Nat) ≤ (140737488355328:Nat)) (.leaf (Sum.inl (hole,(),(),(),a,b,m,o ++ [i],IntKind.i64.wrap (i + (1:Int)),l,p0,p1,p2,ps,c0,c1,c2,c3,c4,())))) (.leaf (Sum.inl (hole,(),(),(),a,b,m,o,IntKind.i64.wrap (i + (1:Int)),l,p0,p1,p2,ps,c0,c1,c2,c3,c4,()))))))))))))) (.leaf (Sum.inr (Exit.exit (2:Nat),Lay.st L_rBucklesL_0 noU (o,())))):=by kernel_rfl
def inv_rBucklesL:Int × Unit × Unit × Unit × List (Int × ((Int × Int) × (Int × Int))) × List (Int × Int) × List (Int × V) × List Int × Int × List Tb × Int × Int × Int × List V × Int × Int × Int × Int × Int × Unit → Prop:=fun (hole,(),(),(),a,b,m,o,i,l,p0,p1,p2,ps,c0,c1,c2,c3,c4,()) => (fitsS l ((p0,p1,p2),ps) = 0 ∧ caseS l (c0,c1,(c2,c3),c4) = 0 ∧ m = pcsS l ((p0,p1,p2),ps)) ∧ (0 ≤ i ∧ i ≤ m.length ∧ (o.length:Int) ≤ i) ∧ (m.length = a.length ∧ m.length = b.length ∧ m.length ≤ 160) ∧ hole ≤ 200 ∧ (∀ t ∈ l,t.2.2.2.2.1 < hole)
def O_rBucklesL:Int × Unit × Unit × Unit × List (Int × ((Int × Int) × (Int × Int))) × List (Int × Int) × List (Int × V) × List Int × Int × List Tb × Int × Int × Int × List V × Int × Int × Int × Int × Int × Unit → Tree (Exit × St):=fun (hole,(),(),(),a,b,m,o,i,l,p0,p1,p2,ps,c0,c1,c2,c3,c4,()) => (.leaf (.exit 2,L_rBucklesL_0.st noU ((bkL l ((p0,p1,p2),ps) (c0,c1,(c2,c3),c4) hole a b (m.drop i.toNat) i o),())))
def R_rBucklesL:LRun:=runOf 138 L_rBucklesL (fun x => x) (inv_rBucklesL) (O_rBucklesL)
theorem K_rBucklesL:LoopOk P [] 138 none noU C_rBucklesL (R_rBucklesL):=by
  refine loop_of hm (cx:=[c_rRoot.gc,c_rDot.gc,c_rWet.gc,c_rSide.gc,c_rdown.gc,c_rroot.gc]) [] (xl:=X_rBucklesL) (α:=Int × Unit × Unit × Unit × List (Int × ((Int × Int) × (Int × Int))) × List (Int × Int) × List (Int × V) × List Int × Int × List Tb × Int × Int × Int × List V × Int × Int × Int × Int × Int × Unit) (fun x => x) (fun (hole,(),(),(),a,b,m,o,i,l,p0,p1,p2,ps,c0,c1,c2,c3,c4,()) => ((m.length:Int) - i).toNat) (fun _ => rfl) (by kernel_rfl) (by kernel_rfl) ?_ (by kernel_rfl) trivial ?_
  · intro e S L' h
    unfold X_rBucklesL at h
    split at h <;> first | (cases h; done) | (cases h; kernel_rfl) | (rcases bif_some h with h | h <;> cases h <;> kernel_rfl)
  · rintro ⟨hole,⟨⟩,⟨⟩,⟨⟩,a,b,m,o,i,l,p0,p1,p2,ps,c0,c1,c2,c3,c4,⟨⟩⟩ hinv Q hQ
    refine hold_of_eq (B_rBucklesL hole a b m o i l p0 p1 p2 ps c0 c1 c2 c3 c4) ?_
    obtain ⟨⟨hf,hc,hm⟩,⟨h0,h1,ho⟩,⟨ha,hb,hl⟩,hh,ht⟩:=hinv
    unfold O_rBucklesL at hQ
    dsimp only at hQ
    rw [W_id (n:=i + 1) (by omega) (by omega)]
    refine ⟨fun d1 => ?_,fun d1 => ?_⟩
    · have d1:i < (m.length:Int):=of_decide_eq_true d1
      have hcase:=(caseS_ok hc).2
      have hpc:PcOk l ((p0,p1,p2),ps) (c0,c1,(c2,c3),c4) (m.getD i.toNat (0,0,0,0)):=by
        rw [hm]; exact pcs_ok hf hc h0 (by rw [← hm]; exact d1)
      have hqm:m.getD i.toNat (0,0,0,0) ∈ pcsS l ((p0,p1,p2),ps):=by rw [← hm]; exact mem_getD h0 d1
      have hqi:=pcsS_idx hqm
      have hql:=pcsS_leg hf hqm
      have htm:pcT l (m.getD i.toNat (0,0,0,0)) ∈ l:=mem_getD hqi.1 hqi.2
      clear hqm
      rw [bkL_step h0 d1] at hQ
      generalize m.getD i.toNat (0,0,0,0) = q at *
      obtain ⟨k1,k2,k3,k4,k5,k6,k7,k8⟩:=crit_ok hpc hcase hh (ht _ htm) (hcase.wet _ htm)
      have hout:=ht _ htm
      have hou:=hpc.tube.out
      have hleg:=hpc.leg
      clear htm hpc
      unfold critS at hQ
      unfold pressS at hQ k4 k6 k7 k8
      have eT:l.getD q.1.toNat (0,0,0,0,0,0,0,0,0) = pcT l q:=rfl
      have eV:ps.getD q.2.1.toNat (0,0,0) = pcV ((p0,p1,p2),ps) q:=rfl
      rw [eT,eV]
      clear eT eV
      generalize pcT l q = t at *
      generalize pcV ((p0,p1,p2),ps) q = v at *
      have eR:=root_leg hleg
      rw [eR]
      clear eR
      dsimp only at hQ k2 k3 k4 k6 k7 k8
      rw [W_id (n:=wetS t c1 * (sideS v).1) (by omega) (by omega)]
      generalize hpr:wetS t c1 * (sideS v).1 / (wholeS v).1 = pr at *
      rw [W_id (n:=8 * t.2.2.2.2.2.2.2.1) (by omega) (by omega),W_id (n:=8 * t.2.2.2.2.2.2.2.1 * pr) (by omega) (by omega),W_id (n:=hole - t.2.2.2.2.1) (by omega) (by omega)]
      have k9:0 < hole - t.2.2.2.2.1 ∧ -9223372036854775808 < 8 * t.2.2.2.2.2.2.2.1 * pr ∧ 8 * t.2.2.2.2.2.2.2.1 * pr ≤ 9223372036854775807:=by omega
      have k10:0 ≤ 8 * t.2.2.2.2.2.2.2.1 * pr / (hole - t.2.2.2.2.1) ∧ 8 * t.2.2.2.2.2.2.2.1 * pr / (hole - t.2.2.2.2.1) < 4611686018427387904:=by omega
      generalize sqI (8 * t.2.2.2.2.2.2.2.1 * pr / (hole - t.2.2.2.2.1)) = r at *
      rw [W_id (n:=1000 * r) (by omega) (by omega),W_id (n:=0 - 1000 * r) (by omega) (by omega)]
      refine ⟨⟨h0,d1⟩,hqi,⟨h0,d1⟩,hql,⟨k1,by omega,by omega⟩,k9,k10,⟨h0,by omega⟩,⟨h0,by omega⟩,fun d2 => ?_,fun d2 => ?_⟩
      · rw [if_pos (of_decide_eq_true d2)] at hQ
        exact ⟨by simp only [List.length_cons,List.length_nil]; omega,⟨⟨⟨hf,hc,hm⟩,⟨by omega,by omega,by simp only [List.length_append,List.length_cons,List.length_nil]; omega⟩,⟨ha,hb,hl⟩,hh,ht⟩,by show ((m.length:Int) - (i + 1)).toNat < ((m.length:Int) - i).toNat; omega⟩,hQ⟩
      · rw [if_neg (of_decide_eq_false d2)] at hQ
        exact ⟨⟨⟨⟨hf,hc,hm⟩,⟨by omega,by omega,by omega⟩,⟨ha,hb,hl⟩,hh,ht⟩,by show ((m.length:Int) - (i + 1)).toNat < ((m.length:Int) - i).toNat; omega⟩,hQ⟩
    · have d1:=of_decide_eq_false d1
      rw [drop_end d1] at hQ
      exact hQ
theorem T_rBuckles (l_0:List Tb) (p_0 p_1 p_2:Int) (p_3:List V) (c_0 c_1 c_2 c_3 c_4 hole:Int):fnTree (P:=P) [c_rLoads.gc,c_rloads.gc,c_rPieces.gc] (lpOf [(0,R_rBucklesE),(2,R_rBucklesL)]) Tryz.f22 (encL 0 [.agg tTs,.agg (.pair tV tVs),.agg (.pair tI (.pair tI (.pair tPart tI))),.val tI] (l_0,((p_0,(p_1,p_2)),p_3),(c_0,(c_1,((c_2,c_3),c_4))),hole,())) =
  Tree.need ((l_0.length:Int) < (2:Int) ^ (62:Nat)) (.cond ((loadsS l_0 ((p_0,p_1,p_2),p_3) (c_0,c_1,(c_2,c_3),c_4)).snd.snd != (0:Int)) (.leaf (SV.tup [SV.nils,SV.int IntKind.i64 (loadsS l_0 ((p_0,p_1,p_2),p_3) (c_0,c_1,(c_2,c_3),c_4)).snd.snd])) (.need (inv_rBucklesE (hole,(),(),(),(loadsS l_0 ((p_0,p_1,p_2),p_3) (c_0,c_1,(c_2,c_3),c_4)).fst,(0:Int),l_0,p_0,p_1,p_2,p_3,c_0,c_1,c_2,c_3,c_4,())) (.cond (List.any (List.drop (Int.toNat (0:Int)) l_0) fun t => wideT hole t || decide (hole > (200:Int))) (.leaf (SV.tup [SV.sl (Ty.int IntKind.i64) [],SV.int IntKind.i64 (2:Int)])) (.need (fitsS l_0 ((p_0,p_1,p_2),p_3) = (0:Int) ∧ caseS l_0 (c_0,c_1,(c_2,c_3),c_4) = (0:Int)) (.need (inv_rBucklesL (hole,(),(),(),(loadsS l_0 ((p_0,p_1,p_2),p_3) (c_0,c_1,(c_2,c_3),c_4)).fst,(loadsS l_0 ((p_0,p_1,p_2),p_3) (c_0,c_1,(c_2,c_3),c_4)).snd.fst,pcsS l_0 ((p_0,p_1,p_2),p_3),[],(0:Int),l_0,p_0,p_1,p_2,p_3,c_0,c_1,c_2,c_3,c_4,())) (.leaf (SV.tup [SV.sl (Ty.int IntKind.i64) (bkL l_0 ((p_0,p_1,p_2),p_3) (c_0,c_1,(c_2,c_3),c_4) hole (loadsS l_0 ((p_0,p_1,p_2),p_3) (c_0,c_1,(c_2,c_3),c_4)).fst (loadsS l_0 ((p_0,p_1,p_2),p_3) (c_0,c_1,(c_2,c_3),c_4)).snd.fst (List.drop (Int.toNat (0:Int)) (pcsS l_0 ((p_0,p_1,p_2),p_3))) (0:Int) []),SV.int IntKind.i64 (0:Int)]))))))):=by kernel_rfl
def c_rBuckles:PC P:=PC.of (α:=List Tb × (V × List V) × (Int × (Int × ((Int × Int) × Int))) × Int × Unit) 22 [.agg tTs,.agg (.pair tV tVs),.agg (.pair tI (.pair tI (.pair tPart tI))),.val tI] (fun x => x) (fun x => x) (fun _ => rfl)
  (fun x => some ((x.1.length:Int) < 2 ^ 62))
  (fun x => .tup [.sl tI (bklS x.1 x.2.1 x.2.2.1 x.2.2.2.1).1,.int .i64 (bklS x.1 x.2.1 x.2.2.1 x.2.2.2.1).2]) (by kernel_rfl) (by
    rintro ⟨l_0,⟨⟨p_0,⟨p_1,p_2⟩⟩,p_3⟩,⟨c_0,⟨c_1,⟨⟨c_2,c_3⟩,c_4⟩⟩⟩,hole,⟨⟩⟩ hp
    refine fn_le hm (by kernel_rfl) (by kernel_rfl) (T_rBuckles l_0 p_0 p_1 p_2 p_3 c_0 c_1 c_2 c_3 c_4 hole) ⟨K_rBucklesE,K_rBucklesL,trivial⟩ (by kernel_rfl) ?_
    try dsimp only at hp
    try dsimp only
    have h62:(l_0.length:Int) < 2 ^ 62:=hp
    show Tree.holds (fun s => LeS s (SV.tup [.sl tI (bklS l_0 ((p_0,p_1,p_2),p_3) (c_0,c_1,(c_2,c_3),c_4) hole).1,.int .i64 (bklS l_0 ((p_0,p_1,p_2),p_3) (c_0,c_1,(c_2,c_3),c_4) hole).2])) _
    unfold bklS
    refine ⟨h62,fun d1 => ?_,fun d1 => ?_⟩
    · rw [if_pos (by simpa using d1)]; exact ⟨rfl,rfl,trivial⟩
    have e:(loadsS l_0 ((p_0,p_1,p_2),p_3) (c_0,c_1,(c_2,c_3),c_4)).2.2 = 0:=by simpa using d1
    obtain ⟨q1,q2⟩:=loads_ok0 e
    obtain ⟨hf,hc⟩:=loads_zero e
    have hne:=(checkT_ok (caseS_ok hc).1).1
    rw [if_neg (show ¬ (loadsS l_0 ((p_0,p_1,p_2),p_3) (c_0,c_1,(c_2,c_3),c_4)).2.2 ≠ 0 by rw [e]; decide)]
    refine ⟨⟨by decide,by omega,h62⟩,fun d2 => ?_,fun d2 => ?_⟩
    · have d2:(l_0.any fun t => wideT hole t || decide (hole > 200)) = true:=d2
      rw [if_pos ((any_wide hole hne).1 d2)]; exact ⟨rfl,rfl,trivial⟩
    · have d2:(l_0.any fun t => wideT hole t || decide (hole > 200)) = false:=d2
      have d3:¬ (hole > 200 ∨ l_0.any (wideT hole) = true):=by
        intro h
        rw [(any_wide hole hne).2 h] at d2
        cases d2
      rw [if_neg d3]
      refine ⟨⟨hf,hc⟩,⟨⟨hf,hc,rfl⟩,⟨by decide,by omega,by decide⟩,⟨q1.symm,(loads_len2 e).symm,q2⟩,Int.not_lt.1 fun h => d3 (.inl h),fun t ht => ?_⟩,⟨rfl,rfl,trivial⟩⟩
      have:=List.any_eq_false.1 (Bool.eq_false_iff.2 fun h => d3 (.inr h)) t ht
      simp only [wideT,decide_eq_true_eq] at this
      omega)
end
end Go.MP
