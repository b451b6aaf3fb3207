/- Paths made of numbers. -/
import Derived.Test.YtoockflaeaknbaaGreatMwH
import Derived.Test.YtoockflaeaknbaaGreatMwE
namespace Go.MP
open Go Go.Sx Go.Proofs
set_option linter.unusedVariables false
set_option linter.unusedSimpArgs false
noncomputable section
abbrev tIs:Ty:=.sl tI
def nextX (l:List Int) (k:Int):Int:=(k * 7919) % 10007 + (if 0 < (l.length:Int) then (l.getD (k % l.length).toNat 0 % 1048576) / (1 + k / l.length) else 0)
def nextS (l:List Int) (at' n:Int):Int:=nextX l (at' + 1) % n
theorem nextS_rng {l:List Int} {k n:Int} (h:0 ≤ k) (hn:0 < n):0 ≤ nextS l k n ∧ nextS l k n < n :=
  ⟨Int.emod_nonneg _ (by omega),Int.emod_lt_of_pos _ hn⟩
def L_Next:Lay:={ slots:=[(0,.ptr 1 0),(1,.val tI)],boxes:=[(1,[.val tIs,.val tI])] }
theorem T_Next (n:Int) (l:List Int) (k:Int):mTree (P:=P) [c_Mod.gc] (lpOf []) Tryz.f28 L_Next true ((),n,l,k,()) =
  Tree.need ((10007:Int) ≠ (0:Int)) (.cond (decide ((l.length:Int) > (0:Int))) (.need ((l.length:Int) ≠ (0:Int)) (.need ((0:Int) ≤ Int.tmod (IntKind.i64.wrap (k + (1:Int))) (l.length:Int) ∧ Int.tmod (IntKind.i64.wrap (k + (1:Int))) (l.length:Int) < (l.length:Int)) (.need ((0:Int) < (1048576:Int) ∧ R64 (1048576:Int)) (.need ((l.length:Int) ≠ (0:Int)) (.need (IntKind.i64.wrap ((1:Int) + IntKind.i64.wrap (Int.tdiv (IntKind.i64.wrap (k + (1:Int))) (l.length:Int))) ≠ (0:Int)) (.need (n ≠ (0:Int)) (.leaf { res:=SV.int IntKind.i64 (Int.tmod (IntKind.i64.wrap (Int.tmod (IntKind.i64.wrap (IntKind.i64.wrap (k + (1:Int)) * (7919:Int))) (10007:Int) + IntKind.i64.wrap (Int.tdiv (List.getD l (Int.toNat (Int.tmod (IntKind.i64.wrap (k + (1:Int))) (l.length:Int))) (0:Int) % (1048576:Int)) (IntKind.i64.wrap ((1:Int) + IntKind.i64.wrap (Int.tdiv (IntKind.i64.wrap (k + (1:Int))) (l.length:Int))))))) n),boxes:=[[SV.sl tI l,SV.int IntKind.i64 (IntKind.i64.wrap (k + (1:Int)))]] }))))))) (.need (n ≠ (0:Int)) (.leaf { res:=SV.int IntKind.i64 (Int.tmod (Int.tmod (IntKind.i64.wrap (IntKind.i64.wrap (k + (1:Int)) * (7919:Int))) (10007:Int)) n),boxes:=[[SV.sl tI l,SV.int IntKind.i64 (IntKind.i64.wrap (k + (1:Int)))]] }))):=by kernel_rfl
def c_Next:MC P:=MC.of (α:=Unit × Int × List Int × Int × Unit) 28 L_Next (fun x => x) (fun x => x) (fun _ => rfl)
  (fun (_,n,l,k,_) => some (0 ≤ k ∧ k < 1099511627776 ∧ 0 < n))
  (fun (_,n,l,k,_) => ⟨.int .i64 (nextS l k n),[[.sl tI l,.int .i64 (k + 1)]],[]⟩) (by kernel_rfl) (by kernel_rfl) (by kernel_rfl) (by
    rintro ⟨⟨⟩,n,l,k,⟨⟩⟩ hp
    refine m_of hm (own:=true) (by kernel_rfl) (by kernel_rfl) (by kernel_rfl) (T_Next n l k) trivial ?_
    obtain ⟨h0,h1,h2⟩ : 0 ≤ k ∧ k < 1099511627776 ∧ 0 < n:=hp
    show Tree.holds (fun s => s = (⟨.int .i64 (nextS l k n),[[.sl tI l,.int .i64 (k + 1)]],[]⟩ : MOut)) _
    have e0:=Int.tmod_eq_emod_of_nonneg (show 0 ≤ (k + 1) * 7919 by omega) (b:=10007)
    have r1:=Int.emod_nonneg ((k + 1) * 7919) (show (10007:Int) ≠ 0 by decide)
    have r2:=Int.emod_lt_of_pos ((k + 1) * 7919) (show (0:Int) < 10007 by decide)
    rw [W_id (n:=k + 1) (by omega) (by omega),W_id (n:=(k + 1) * 7919) (by omega) (by omega),e0]
    refine ⟨by decide,fun hl => ?_,fun hl => ?_⟩
    · simp only [gt_iff_lt,decide_eq_true_eq] at hl
      have e1:=Int.tmod_eq_emod_of_nonneg (show 0 ≤ k + 1 by omega) (b:=(l.length:Int))
      have e2:=Int.tdiv_eq_ediv_of_nonneg (show 0 ≤ k + 1 by omega) (b:=(l.length:Int))
      have q1:0 ≤ (k + 1) / (l.length:Int):=Int.ediv_nonneg (by omega) (by omega)
      have q2:=Int.ediv_le_self (l.length:Int) (show 0 ≤ k + 1 by omega)
      have m1:=Int.emod_nonneg (k + 1) (show (l.length:Int) ≠ 0 by omega)
      have m2:=Int.emod_lt_of_pos (k + 1) hl
      rw [e1,e2]
      generalize hg:l.getD ((k + 1) % (l.length:Int)).toNat 0 = g at *
      have x1:=Int.emod_nonneg g (show (1048576:Int) ≠ 0 by decide)
      have x2:=Int.emod_lt_of_pos g (show (0:Int) < 1048576 by decide)
      have e3:=Int.tdiv_eq_ediv_of_nonneg x1 (b:=1 + (k + 1) / (l.length:Int))
      have y1:=Int.ediv_nonneg x1 (show 0 ≤ 1 + (k + 1) / (l.length:Int) by omega)
      have y2:=Int.ediv_le_self (1 + (k + 1) / (l.length:Int)) x1
      rw [W_id (n:=(k + 1) / (l.length:Int)) (by omega) (by omega),W_id (n:=1 + (k + 1) / (l.length:Int)) (by omega) (by omega),e3,W_id (n:=g % 1048576 / (1 + (k + 1) / (l.length:Int))) (by omega) (by omega),
        W_id (n:=(k + 1) * 7919 % 10007 + g % 1048576 / (1 + (k + 1) / (l.length:Int))) (by omega) (by omega),Int.tmod_eq_emod_of_nonneg (by omega)]
      refine ⟨by omega,⟨m1,m2⟩,⟨by decide,by decide,by decide⟩,by omega,by omega,by omega,?_⟩
      show MOut.mk _ _ _ = _
      unfold nextS nextX
      rw [if_pos hl,hg]
    · simp only [gt_iff_lt,decide_eq_false_iff_not] at hl
      rw [Int.tmod_eq_emod_of_nonneg (by omega)]
      refine ⟨by omega,?_⟩
      show MOut.mk _ _ _ = _
      unfold nextS nextX
      rw [if_neg hl,Int.add_zero])
def L_NewRing:Lay:={ slots:=[(0,.val tIs)] }
theorem T_NewRing (l:List Int):mTree (P:=P) [] (lpOf []) Tryz.f7 L_NewRing true (l,()) =
  Tree.leaf { res:=SV.ptr (nat_lit 100) (0:Nat),boxes:=[],news:=[Ob.box [SV.sl tI l,SV.int IntKind.i64 (0:Int)]] }:=by kernel_rfl
def c_NewRing:MC P:=MC.of (α:=List Int × Unit) 7 L_NewRing (fun x => x) (fun x => x) (fun _ => rfl)
  (fun _ => none)
  (fun (l,_) => ⟨.ptr 100 0,[],[.box [.sl tI l,.int .i64 0]]⟩) (by kernel_rfl) (by kernel_rfl) (by kernel_rfl) (by
    rintro ⟨l,⟨⟩⟩ hp
    refine m_of hm (own:=true) (by kernel_rfl) (by kernel_rfl) (by kernel_rfl) (T_NewRing l) trivial ?_
    exact rfl)
theorem T_klong (x y z:Int):fnTree (P:=P) [c_rDot.gc,c_rRoot.gc] (lpOf []) Tryz.f30 (encL 0 [.agg tV] ((x,y,z),())) =
  Tree.leaf (SV.int IntKind.i64 (rootS (vdot (x,y,z) (x,y,z))).fst):=by kernel_rfl
def c_klong:PC P:=PC.of (α:=V × Unit) 30 [.agg tV] (fun x => x) (fun x => x) (fun _ => rfl)
  (fun _ => none)
  (fun x => .int .i64 (rootS (vdot x.1 x.1)).1) (by kernel_rfl) (by
    rintro ⟨⟨x,y,z⟩,⟨⟩⟩ hp
    refine fn_of hm (by kernel_rfl) (by kernel_rfl) (T_klong x y z) trivial ?_
    exact rfl)
theorem T_rTimes (x y z n:Int):fnTree (P:=P) [] (lpOf []) Tryz.f31 (encL 0 [.agg tV,.val tI] ((x,y,z),n,())) =
  Tree.leaf (SV.agg [SV.int IntKind.i64 (IntKind.i64.wrap (x * n)),SV.int IntKind.i64 (IntKind.i64.wrap (y * n)),SV.int IntKind.i64 (IntKind.i64.wrap (z * n))]):=by kernel_rfl
def c_rTimes:PC P:=PC.of (α:=V × Int × Unit) 31 [.agg tV,.val tI] (fun x => x) (fun x => x) (fun _ => rfl)
  (fun _ => none)
  (fun x => svV (vmul x.1 x.2.1)) (by kernel_rfl) (by
    rintro ⟨⟨x,y,z⟩,n,⟨⟩⟩ hp
    refine fn_of hm (by kernel_rfl) (by kernel_rfl) (T_rTimes x y z n) trivial ?_
    exact rfl)
def L_kPath0:Lay:={ slots:=[(0,.ptr 1 0),(1,.val tI)],boxes:=[(1,[.val tIs,.val tI])] }
def L_kPathL:Lay:={ slots:=[(0,.ptr 1 0),(4,.ptr 5066 0),(5,.ptr 6066 0),(6,.val tI)],boxes:=[(1,[.val tIs,.val tI]),(5066,[.any,.any,.any,.any]),(6066,[.val tI,.val tI,.val tI,.val tVs])] }
def L_kPathL_0:Lay:={ slots:=[(4,.ptr 5066 0),(5,.ptr 6066 0)],boxes:=[(1,[.val tIs,.val tI]),(5066,[.any,.any,.any,.any]),(6066,[.val tI,.val tI,.val tI,.val tVs])] }
def X_kPathL:Exit → St → Option Lay
  | .exit 0,_ => some L_kPathL_0
  | _,_ => none
abbrev C_kPathL:Code:=loopC (bodyOf Tryz.f8) 0
theorem B_kPathL (n:Int) (l:List Int) (k x y z:Int) (s:List V):loopBodyA (P:=P) [c_Next.gc,c_Dir.gc,c_klong.gc,c_rTimes.gc,c_rCheck.gc] (lpOf []) [] 66 (usd noU (L_kPath0.ids ++ rowIds rowBase L_kPath0.shs)) (inner C_kPathL) L_kPathL X_kPathL (α:=Unit × Unit × Unit × Int × List Int × Int × Unit × Unit × Unit × Unit × Int × Int × Int × List V × Unit) (fun x => x) (fun x => x) ((),(),(),n,l,k,(),(),(),(),x,y,z,s,()) =
  Tree.cond (decide (n > (0:Int))) (.need ((0:Int) ≤ k ∧ k < (1099511627776:Int) ∧ (0:Int) < (52:Int)) (.need ((rootS (vdot (dirS (nextS l k (52:Int))) (dirS (nextS l k (52:Int))))).fst ≠ (0:Int)) (.need ((0:Int) ≤ k + (1:Int) ∧ k + (1:Int) < (1099511627776:Int) ∧ (0:Int) < (3:Int)) (.need ((0:Int) ≤ k + (1:Int) + (1:Int) ∧ k + (1:Int) + (1:Int) < (1099511627776:Int) ∧ (0:Int) < (20000:Int)) (.need ((rootS (vdot (dirS (nextS l k (52:Int))) (dirS (nextS l k (52:Int))))).fst ≠ (0:Int)) (.need (((0:Nat) + List.length s) * (24:Nat) ≤ (140737488355328:Nat)) (.need ((List.length s + List.length [vmul (dirS (nextS l k (52:Int))) (IntKind.i64.wrap (IntKind.i64.wrap (Int.tdiv (IntKind.i64.wrap (IntKind.i64.wrap ((100:Int) + (rootS (vdot (dirS (nextS l k (52:Int))) (dirS (nextS l k (52:Int))))).fst) - (1:Int))) (rootS (vdot (dirS (nextS l k (52:Int))) (dirS (nextS l k (52:Int))))).fst) + IntKind.i64.wrap (Int.tdiv (IntKind.i64.wrap (nextS l (k + (1:Int)) (3:Int) * nextS l (k + (1:Int) + (1:Int)) (20000:Int))) (rootS (vdot (dirS (nextS l k (52:Int))) (dirS (nextS l k (52:Int))))).fst)))]) * (24:Nat) ≤ (140737488355328:Nat)) (.cond (checkS ((x,y,z),s ++ [vmul (dirS (nextS l k (52:Int))) (IntKind.i64.wrap (IntKind.i64.wrap (Int.tdiv (IntKind.i64.wrap (IntKind.i64.wrap ((100:Int) + (rootS (vdot (dirS (nextS l k (52:Int))) (dirS (nextS l k (52:Int))))).fst) - (1:Int))) (rootS (vdot (dirS (nextS l k (52:Int))) (dirS (nextS l k (52:Int))))).fst) + IntKind.i64.wrap (Int.tdiv (IntKind.i64.wrap (nextS l (k + (1:Int)) (3:Int) * nextS l (k + (1:Int) + (1:Int)) (20000:Int))) (rootS (vdot (dirS (nextS l k (52:Int))) (dirS (nextS l k (52:Int))))).fst)))]) == (0:Int)) (.leaf (Sum.inl ((),(),(),IntKind.i64.wrap (n - (1:Int)),l,k + (1:Int) + (1:Int) + (1:Int),(),(),(),(),x,y,z,s ++ [vmul (dirS (nextS l k (52:Int))) (IntKind.i64.wrap (IntKind.i64.wrap (Int.tdiv (IntKind.i64.wrap (IntKind.i64.wrap ((100:Int) + (rootS (vdot (dirS (nextS l k (52:Int))) (dirS (nextS l k (52:Int))))).fst) - (1:Int))) (rootS (vdot (dirS (nextS l k (52:Int))) (dirS (nextS l k (52:Int))))).fst) + IntKind.i64.wrap (Int.tdiv (IntKind.i64.wrap (nextS l (k + (1:Int)) (3:Int) * nextS l (k + (1:Int) + (1:Int)) (20000:Int))) (rootS (vdot (dirS (nextS l k (52:Int))) (dirS (nextS l k (52:Int))))).fst)))],()))) (.leaf (Sum.inl ((),(),(),IntKind.i64.wrap (n - (1:Int)),l,k + (1:Int) + (1:Int) + (1:Int),(),(),(),(),x,y,z,s,()))))))))))) (.leaf (Sum.inr (Exit.exit (0:Nat),Lay.st L_kPathL_0 (usd noU (Lay.ids L_kPath0 ++ rowIds rowBase (Lay.shs L_kPath0))) ((),(),l,k,(),(),(),(),x,y,z,s,())))):=by kernel_rfl
def inv_kPathL:Unit × Unit × Unit × Int × List Int × Int × Unit × Unit × Unit × Unit × Int × Int × Int × List V × Unit → Prop:=fun (_,_,_,n,l,k,_,_,_,_,x,y,z,s,_) => 0 ≤ n ∧ n ≤ 100 ∧ 0 ≤ k ∧ k + 100 * n ≤ 1000000000 ∧ checkS ((x,y,z),s) = 0
def Z_kPathL:Unit × Unit × Unit × Int × List Int × Int × Unit × Unit × Unit × Unit × Int × Int × Int × List V × Unit → Unit × Unit × List Int × Int × Unit × Unit × Unit × Unit × Int × Int × Int × List V × Unit → Prop:=fun (_,_,_,n,l,k,_,_,_,_,x,y,z,s,_) (_,_,l',k',_,_,_,_,x',y',z',s',_) => l' = l ∧ k ≤ k' ∧ k' ≤ k + 100 * n ∧ checkS ((x',y',z'),s') = 0 ∧ x' = x ∧ y' = y
theorem E_kPathL : ∃ o:Unit × Unit × Unit × Int × List Int × Int × Unit × Unit × Unit × Unit × Int × Int × Int × List V × Unit → Unit × Unit × List Int × Int × Unit × Unit × Unit × Unit × Int × Int × Int × List V × Unit,LoopOk P [] 66 none (usd noU (L_kPath0.ids ++ rowIds rowBase L_kPath0.shs)) C_kPathL (runOf 66 L_kPathL (fun x => x) (inv_kPathL) fun a => .leaf (.exit 0,L_kPathL_0.st (usd noU (L_kPath0.ids ++ rowIds rowBase L_kPath0.shs)) (o a))) ∧ ∀ a,inv_kPathL a → Z_kPathL a (o a):=by
  refine loop_rel1 hm (cx:=[c_Next.gc,c_Dir.gc,c_klong.gc,c_rTimes.gc,c_rCheck.gc]) [] (xl:=X_kPathL) (α:=Unit × Unit × Unit × Int × List Int × Int × Unit × Unit × Unit × Unit × Int × Int × Int × List V × Unit) (β:=Unit × Unit × List Int × Int × Unit × Unit × Unit × Unit × Int × Int × Int × List V × Unit) (L':=L_kPathL_0) (fun x => x) (fun (_,_,_,n,_) => n.toNat) (Z_kPathL) (.exit 0) (fun x => x) (fun _ => rfl) (by kernel_rfl) (by kernel_rfl) ?_ (by kernel_rfl) trivial ?_
  · intro e S L' h
    unfold X_kPathL at h
    split at h <;> first | (cases h; done) | (cases h; kernel_rfl) | (rcases bif_some h with h | h <;> cases h <;> kernel_rfl)
  · rintro ⟨⟨⟩,⟨⟩,⟨⟩,n,l,k,⟨⟩,⟨⟩,⟨⟩,⟨⟩,x,y,z,s,⟨⟩⟩ hinv
    refine hold_of_eq (B_kPathL n l k x y z s) ?_
    obtain ⟨h0,h1,h2,h3,h4⟩:=hinv
    have hlen:=checkS_len h4
    have hs:s.length ≤ 20:=hlen
    obtain ⟨d1,d2,d3⟩:=dirS_ok (nextS l k 52)
    have hi:=(wholeS_true d1).1
    have e1:rootS (vdot (dirS (nextS l k 52)) (dirS (nextS l k 52))) = wholeS (dirS (nextS l k 52)):=by
      rw [vdot_eq hi hi]
      exact (if_pos hi).symm
    rw [e1]
    refine ⟨fun h => ?_,fun h => ?_⟩
    · simp only [gt_iff_lt,decide_eq_true_eq] at h
      rw [W_id (n:=n - 1) (by omega) (by omega)]
      generalize vmul (dirS (nextS l k 52)) _ = v
      have hm:(n - 1).toNat < n.toNat:=by omega
      refine ⟨⟨h2,by omega,by decide⟩,by omega,⟨by omega,by omega,by decide⟩,⟨by omega,by omega,by decide⟩,by omega,by omega,by simp only [List.length_cons,List.length_nil]; omega,fun hc => ?_,fun hc => ?_⟩
      · simp only [beq_iff_eq] at hc
        refine ⟨⟨⟨by omega,by omega,by omega,by omega,hc⟩,hm⟩,?_⟩
        rintro ⟨_,_,l',k',_,_,_,_,x',y',z',s',_⟩ ⟨b1,b2,b3,b4⟩
        exact ⟨b1,by omega,by omega,b4⟩
      · refine ⟨⟨⟨by omega,by omega,by omega,by omega,h4⟩,hm⟩,?_⟩
        rintro ⟨_,_,l',k',_,_,_,_,x',y',z',s',_⟩ ⟨b1,b2,b3,b4⟩
        exact ⟨b1,by omega,by omega,b4⟩
    · simp only [gt_iff_lt,decide_eq_false_iff_not] at h
      exact ⟨_,rfl,rfl,by omega,by omega,h4,rfl,rfl⟩
def O_kPathL:Unit × Unit × Unit × Int × List Int × Int × Unit × Unit × Unit × Unit × Int × Int × Int × List V × Unit → Unit × Unit × List Int × Int × Unit × Unit × Unit × Unit × Int × Int × Int × List V × Unit:=Classical.choose (E_kPathL)
def R_kPathL:LRun:=runOf 66 L_kPathL (fun x => x) (inv_kPathL) fun a => .leaf (.exit 0,L_kPathL_0.st (usd noU (L_kPath0.ids ++ rowIds rowBase L_kPath0.shs)) (O_kPathL a))
theorem K_kPathL:LoopOk P [] 66 none (usd noU (L_kPath0.ids ++ rowIds rowBase L_kPath0.shs)) C_kPathL (R_kPathL):=(Classical.choose_spec (E_kPathL)).1
theorem S_kPathL:∀ a,inv_kPathL a → Z_kPathL a (O_kPathL a):=(Classical.choose_spec (E_kPathL)).2
theorem checkS_nil {x y z:Int} (hx : -1048576 ≤ x ∧ x ≤ 1048576) (hy : -1048576 ≤ y ∧ y ≤ 1048576) (hz:0 ≤ z ∧ z ≤ 1048576):checkS ((x,y,z),[]) = 0:=by
  have h1:inB (x,y,z) 1048576 = true:=by
    rw [inB_iff]
    exact ⟨hx,hy,by dsimp only; omega,by dsimp only; omega⟩
  have h2:validS (x,y,z) = true:=by
    unfold validS
    rw [h1]
    simp only [Bool.true_and,decide_eq_true_eq]
    exact hz.1
  unfold checkS
  rw [if_neg (by simp),if_neg (by rw [h2]; simp)]
  rfl
def L_kPath:Lay:={ slots:=[(0,.ptr 1 0),(1,.val tI)],boxes:=[(1,[.val tIs,.val tI])] }
def T_kPath_t (m:Int) (l:List Int) (k:Int):Tree MOut :=
  Tree.need ((0:Int) ≤ k ∧ k < (1099511627776:Int) ∧ (0:Int) < (40000:Int)) (.need ((0:Int) ≤ k + (1:Int) ∧ k + (1:Int) < (1099511627776:Int) ∧ (0:Int) < (40000:Int)) (.need ((0:Int) ≤ k + (1:Int) + (1:Int) ∧ k + (1:Int) + (1:Int) < (1099511627776:Int) ∧ (0:Int) < (3:Int)) (.need ((0:Int) ≤ k + (1:Int) + (1:Int) + (1:Int) ∧ k + (1:Int) + (1:Int) + (1:Int) < (1099511627776:Int) ∧ (0:Int) < (20000:Int)) (.need ((0:Int) ≤ k + (1:Int) + (1:Int) + (1:Int) + (1:Int) ∧ k + (1:Int) + (1:Int) + (1:Int) + (1:Int) < (1099511627776:Int) ∧ (0:Int) < IntKind.i64.wrap (m + (1:Int))) (.need (inv_kPathL ((),(),(),nextS l (k + (1:Int) + (1:Int) + (1:Int) + (1:Int)) (IntKind.i64.wrap (m + (1:Int))),l,k + (1:Int) + (1:Int) + (1:Int) + (1:Int) + (1:Int),(),(),(),(),IntKind.i64.wrap (nextS l k (40000:Int) - (20000:Int)),IntKind.i64.wrap (nextS l (k + (1:Int)) (40000:Int) - (20000:Int)),IntKind.i64.wrap (nextS l (k + (1:Int) + (1:Int)) (3:Int) * nextS l (k + (1:Int) + (1:Int) + (1:Int)) (20000:Int)),[],())) (.leaf { res:=SV.agg [SV.int IntKind.i64 (O_kPathL ((),(),(),nextS l (k + (1:Int) + (1:Int) + (1:Int) + (1:Int)) (IntKind.i64.wrap (m + (1:Int))),l,k + (1:Int) + (1:Int) + (1:Int) + (1:Int) + (1:Int),(),(),(),(),IntKind.i64.wrap (nextS l k (40000:Int) - (20000:Int)),IntKind.i64.wrap (nextS l (k + (1:Int)) (40000:Int) - (20000:Int)),IntKind.i64.wrap (nextS l (k + (1:Int) + (1:Int)) (3:Int) * nextS l (k + (1:Int) + (1:Int) + (1:Int)) (20000:Int)),[],())).snd.snd.snd.snd.snd.snd.snd.snd.fst,SV.int IntKind.i64 (O_kPathL ((),(),(),nextS l (k + (1:Int) + (1:Int) + (1:Int) + (1:Int)) (IntKind.i64.wrap (m + (1:Int))),l,k + (1:Int) + (1:Int) + (1:Int) + (1:Int) + (1:Int),(),(),(),(),IntKind.i64.wrap (nextS l k (40000:Int) - (20000:Int)),IntKind.i64.wrap (nextS l (k + (1:Int)) (40000:Int) - (20000:Int)),IntKind.i64.wrap (nextS l (k + (1:Int) + (1:Int)) (3:Int) * nextS l (k + (1:Int) + (1:Int) + (1:Int)) (20000:Int)),[],())).snd.snd.snd.snd.snd.snd.snd.snd.snd.fst,SV.int IntKind.i64 (O_kPathL ((),(),(),nextS l (k + (1:Int) + (1:Int) + (1:Int) + (1:Int)) (IntKind.i64.wrap (m + (1:Int))),l,k + (1:Int) + (1:Int) + (1:Int) + (1:Int) + (1:Int),(),(),(),(),IntKind.i64.wrap (nextS l k (40000:Int) - (20000:Int)),IntKind.i64.wrap (nextS l (k + (1:Int)) (40000:Int) - (20000:Int)),IntKind.i64.wrap (nextS l (k + (1:Int) + (1:Int)) (3:Int) * nextS l (k + (1:Int) + (1:Int) + (1:Int)) (20000:Int)),[],())).snd.snd.snd.snd.snd.snd.snd.snd.snd.snd.fst,SV.sl tV (O_kPathL ((),(),(),nextS l (k + (1:Int) + (1:Int) + (1:Int) + (1:Int)) (IntKind.i64.wrap (m + (1:Int))),l,k + (1:Int) + (1:Int) + (1:Int) + (1:Int) + (1:Int),(),(),(),(),IntKind.i64.wrap (nextS l k (40000:Int) - (20000:Int)),IntKind.i64.wrap (nextS l (k + (1:Int)) (40000:Int) - (20000:Int)),IntKind.i64.wrap (nextS l (k + (1:Int) + (1:Int)) (3:Int) * nextS l (k + (1:Int) + (1:Int) + (1:Int)) (20000:Int)),[],())).snd.snd.snd.snd.snd.snd.snd.snd.snd.snd.snd.fst],boxes:=[[SV.sl tI (O_kPathL ((),(),(),nextS l (k + (1:Int) + (1:Int) + (1:Int) + (1:Int)) (IntKind.i64.wrap (m + (1:Int))),l,k + (1:Int) + (1:Int) + (1:Int) + (1:Int) + (1:Int),(),(),(),(),IntKind.i64.wrap (nextS l k (40000:Int) - (20000:Int)),IntKind.i64.wrap (nextS l (k + (1:Int)) (40000:Int) - (20000:Int)),IntKind.i64.wrap (nextS l (k + (1:Int) + (1:Int)) (3:Int) * nextS l (k + (1:Int) + (1:Int) + (1:Int)) (20000:Int)),[],())).snd.snd.fst,SV.int IntKind.i64 (O_kPathL ((),(),(),nextS l (k + (1:Int) + (1:Int) + (1:Int) + (1:Int)) (IntKind.i64.wrap (m + (1:Int))),l,k + (1:Int) + (1:Int) + (1:Int) + (1:Int) + (1:Int),(),(),(),(),IntKind.i64.wrap (nextS l k (40000:Int) - (20000:Int)),IntKind.i64.wrap (nextS l (k + (1:Int)) (40000:Int) - (20000:Int)),IntKind.i64.wrap (nextS l (k + (1:Int) + (1:Int)) (3:Int) * nextS l (k + (1:Int) + (1:Int) + (1:Int)) (20000:Int)),[],())).snd.snd.snd.fst]] }))))))
theorem T_kPath (m:Int) (l:List Int) (k:Int):mTree (P:=P) [c_Next.gc] (lpOf [(0,R_kPathL)]) Tryz.f8 L_kPath false ((),m,l,k,()) = T_kPath_t m l k:=by kernel_rfl
def pr_kPath:Unit × Int × List Int × Int × Unit → Prop:=fun (_,m,l,k,_) => 0 ≤ k ∧ k ≤ 500000000 ∧ 0 ≤ m ∧ m ≤ 24
def N_kPath:Unit × Int × List Int × Int × Unit → Pth × Int → MOut:=fun (_,m,l,k,_) b => ⟨.agg [.int .i64 b.1.1.1,.int .i64 b.1.1.2.1,.int .i64 b.1.1.2.2,.sl tV b.1.2],[[.sl tI l,.int .i64 b.2]],[]⟩
def Z_kPath:Unit × Int × List Int × Int × Unit → Pth × Int → Prop:=fun (_,m,l,k,_) b => checkS b.1 = 0 ∧ k ≤ b.2 ∧ b.2 ≤ k + 3000 ∧ -20000 ≤ b.1.1.1 ∧ b.1.1.1 ≤ 20000 ∧ -20000 ≤ b.1.1.2.1 ∧ b.1.1.2.1 ≤ 20000
theorem X_kPath : ∃ f:Unit × Int × List Int × Int × Unit → Pth × Int,∀ a,pr_kPath a → (fun a b => MFnOk P 8 L_kPath a (N_kPath a b) ∧ Z_kPath a b) a (f a):=by
  refine choose_val (α:=Unit × Int × List Int × Int × Unit) (β:=Pth × Int) (pr:=pr_kPath) (R:=fun a b => MFnOk P 8 L_kPath a (N_kPath a b) ∧ Z_kPath a b) ?_
  rintro ⟨⟨⟩,m,l,k,⟨⟩⟩ hp
  have key:(T_kPath_t m l k).holds (fun s => ∃ b,s = N_kPath ((),m,l,k,()) b ∧ Z_kPath ((),m,l,k,()) b):=by
    unfold T_kPath_t
    obtain ⟨h0,h1,h2,h3⟩:=hp
    have n1:=nextS_rng (l:=l) (k:=k) (n:=40000) (by omega) (by decide)
    have n2:=nextS_rng (l:=l) (k:=k + 1) (n:=40000) (by omega) (by decide)
    have n3:=nextS_rng (l:=l) (k:=k + 1 + 1) (n:=3) (by omega) (by decide)
    have n4:=nextS_rng (l:=l) (k:=k + 1 + 1 + 1) (n:=20000) (by omega) (by decide)
    have n5:=nextS_rng (l:=l) (k:=k + 1 + 1 + 1 + 1) (n:=m + 1) (by omega) (by omega)
    have hz0:=Int.mul_nonneg n3.1 n4.1
    have hz1:=(mulB (a:=nextS l (k + 1 + 1) 3) (b:=nextS l (k + 1 + 1 + 1) 20000) (A:=2) (B:=19999) (by omega) (by omega)).2
    rw [W_id (n:=m + 1) (by omega) (by omega),W_id (n:=nextS l k 40000 - 20000) (by omega) (by omega),W_id (n:=nextS l (k + 1) 40000 - 20000) (by omega) (by omega),W_id (n:=nextS l (k + 1 + 1) 3 * nextS l (k + 1 + 1 + 1) 20000) (by omega) (by omega)]
    have hc:=checkS_nil (x:=nextS l k 40000 - 20000) (y:=nextS l (k + 1) 40000 - 20000) (z:=nextS l (k + 1 + 1) 3 * nextS l (k + 1 + 1 + 1) 20000) (by omega) (by omega) (by omega)
    have bx : -20000 ≤ nextS l k 40000 - 20000 ∧ nextS l k 40000 - 20000 ≤ 20000:=by omega
    have bY : -20000 ≤ nextS l (k + 1) 40000 - 20000 ∧ nextS l (k + 1) 40000 - 20000 ≤ 20000:=by omega
    generalize nextS l k 40000 - 20000 = x at *
    generalize nextS l (k + 1) 40000 - 20000 = y at *
    generalize nextS l (k + 1 + 1) 3 * nextS l (k + 1 + 1 + 1) 20000 = z at *
    generalize nextS l (k + 1 + 1 + 1 + 1) (m + 1) = n at *
    have hinv:inv_kPathL ((),(),(),n,l,k + 1 + 1 + 1 + 1 + 1,(),(),(),(),x,y,z,[],()):=⟨by omega,by omega,by omega,by omega,hc⟩
    have hS:=S_kPathL _ hinv
    generalize O_kPathL ((),(),(),n,l,k + 1 + 1 + 1 + 1 + 1,(),(),(),(),x,y,z,[],()) = o at *
    obtain ⟨_,_,l',k',_,_,_,_,x',y',z',s',_⟩:=o
    obtain ⟨rfl,h4,h5,h6,ex,ey⟩:=hS
    refine ⟨⟨by omega,by omega,by decide⟩,⟨by omega,by omega,by decide⟩,⟨by omega,by omega,by decide⟩,⟨by omega,by omega,by decide⟩,⟨by omega,by omega,by omega⟩,hinv,?_⟩
    exact ⟨(((x',y',z'),s'),k'),rfl,h6,by show k ≤ k'; omega,by show k' ≤ k + 3000; omega,by show -20000 ≤ x'; omega,by show x' ≤ 20000; omega,by show -20000 ≤ y'; omega,by show y' ≤ 20000; omega⟩
  obtain ⟨s,⟨b,hs,hb⟩,h⟩:=m_rel hm (own:=false) (by kernel_rfl) (by kernel_rfl) (by kernel_rfl) (T_kPath m l k) ⟨K_kPathL,trivial⟩ key
  subst hs
  exact ⟨b,h,hb⟩
def V_kPath:Unit × Int × List Int × Int × Unit → Pth × Int:=Classical.choose X_kPath
theorem S_kPath:∀ a,pr_kPath a → Z_kPath a (V_kPath a):=fun a h => ((Classical.choose_spec X_kPath) a h).2
def c_kPath:MC P:=MC.of (α:=Unit × Int × List Int × Int × Unit) 8 L_kPath (fun x => x) (fun x => x) (fun _ => rfl) (fun a => some (pr_kPath a)) (fun a => N_kPath a (V_kPath a)) (by kernel_rfl) (by kernel_rfl) (by kernel_rfl) (fun a h => ((Classical.choose_spec X_kPath) a h).1)
end
end Go.MP
