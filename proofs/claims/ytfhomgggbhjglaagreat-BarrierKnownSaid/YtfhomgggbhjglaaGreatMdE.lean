/- Cuts: the program's. -/
import Derived.Test.YtfhomgggbhjglaaGreatMdD
import Derived.Test.YtfhomgggbhjglaaGreatMdF
import Derived.Test.YtfhomgggbhjglaaGreatFw4
namespace Go.MB
open Go Go.Sx Go.Proofs
set_option linter.unusedVariables false
set_option linter.unusedSimpArgs false
noncomputable section
theorem prfU_hd {h:Hs} (k:HOk h) {s:Nat} (hs:s < 2 ^ h.1.length):(!((prfU h.2.1 (standN s h.2.1 0) 0 [] h.2.2.toNat).getD []).isEmpty) = hdM h s:=by
  rw [prfU_some k,standN_eq (f:=fl h.1.length s) (fun j => (fl_at hs j).symm),prfU_eq (fun l hl i hi => ((k.ev l hl).2.2 i hi).1) _ _ _ _ (relU_nil _),hdM_eq hs]
  rfl
def cinS (s:Int) (c:Int):Bool:=decide (c.toNat &&& s.toNat = c.toNat)
def L_cuts1:Lay:={ slots:=[(0,.val (.int .u64)),(1,.ptr 1 0)],boxes:=[(1,[.val (.int .u64)])] }
theorem T_cuts1 (c x0:Int):mTree (P:=P) [] (lpOf []) Tryz.f86 L_cuts1 true (c,(),x0,()) =
  Tree.leaf { res:=SV.bool (bits BinOp.and IntKind.u64 c x0 == c),boxes:=[[SV.int IntKind.u64 x0]] }:=by kernel_rfl
def c_cuts1:MC P:=MC.of (α:=Int × Unit × Int × Unit) 86 L_cuts1 (fun x => x) (fun x => x) (fun _ => rfl)
  (fun x => some ((0 ≤ x.1 ∧ x.1 < 1024) ∧ 0 ≤ x.2.2.1 ∧ x.2.2.1 < 1024))
  (fun x => ⟨.bool (cinS x.2.2.1 x.1),[[.int .u64 x.2.2.1]],[]⟩) (by kernel_rfl) (by kernel_rfl) (by kernel_rfl) (by
    rintro ⟨c,⟨⟩,x0,⟨⟩⟩ hp
    refine m_of hm (own:=true) (by kernel_rfl) (by kernel_rfl) (by kernel_rfl) (T_cuts1 c x0) trivial ?_
    try dsimp only at hp
    try dsimp only
    obtain ⟨⟨h0,h1⟩,h2,h3⟩ : (0 ≤ c ∧ c < 1024) ∧ 0 ≤ x0 ∧ x0 < 1024:=hp
    obtain ⟨C,rfl⟩:=Int.eq_ofNat_of_zero_le h0
    obtain ⟨X,rfl⟩:=Int.eq_ofNat_of_zero_le h2
    rw [andN _ _ (by omega) (by omega)]
    refine congrArg (fun b => (⟨.bool b,[[.int .u64 (X:Int)]],[]⟩ : MOut)) ?_
    unfold cinS
    rw [Int.toNat_natCast,Int.toNat_natCast,Bool.eq_iff_iff]
    simp only [beq_iff_eq,decide_eq_true_eq]
    omega)
def L_ixC0:Lay:={ slots:=[(0,.val (.sl tU)),(1,.clo 86 [(1,0)])],boxes:=[(1,[.val tU])] }
def L_ixCL:Lay:={ slots:=[(0,.val (.sl tU)),(1,.clo 86 [(1,0)]),(7,.val tI),(8,.val tI)],boxes:=[(1,[.val tU])] }
def L_ixCL_0:Lay:={ slots:=[],boxes:=[(1,[.val tU])] }
def L_ixCL_1:Lay:={ slots:=[(4,.val tI)],boxes:=[(1,[.val tU])] }
def X_ixCL:Exit → St → Option Lay
  | .exit 0,_ => some L_ixCL_0
  | .ret,_ => some L_ixCL_1
  | _,_ => none
abbrev C_ixCL:Code:=loopC (bodyOf Tryz.f122) 0
theorem B_ixCL (l:List Int) (n i:Int) (x0:Int):loopBodyA (P:=P) [c_cuts1.gc] (lpOf []) [] 19 (usd noU (L_ixC0.ids ++ rowIds rowBase L_ixC0.shs)) (inner C_ixCL) L_ixCL X_ixCL (α:=List Int × Unit × Int × Int × Int × Unit) (fun x => x) (fun x => x) (l,(),n,i,x0,()) =
  Tree.cond (decide (i < n)) (.need ((0:Int) ≤ i ∧ i < (l.length:Int)) (.need (((0:Int) ≤ List.getD l (Int.toNat i) (0:Int) ∧ List.getD l (Int.toNat i) (0:Int) < (1024:Int)) ∧ (0:Int) ≤ x0 ∧ x0 < (1024:Int)) (.cond (cinS x0 (List.getD l (Int.toNat i) (0:Int))) (.leaf (Sum.inr (Exit.ret,Lay.st L_ixCL_1 (usd noU (Lay.ids L_ixC0 ++ rowIds rowBase (Lay.shs L_ixC0))) (i,x0,())))) (.leaf (Sum.inl (l,(),n,IntKind.i64.wrap (i + (1:Int)),x0,())))))) (.leaf (Sum.inr (Exit.exit (0:Nat),Lay.st L_ixCL_0 (usd noU (Lay.ids L_ixC0 ++ rowIds rowBase (Lay.shs L_ixC0))) (x0,())))):=by kernel_rfl
def inv_ixCL:List Int × Unit × Int × Int × Int × Unit → Prop:=fun (l,_,n,i,x0,_) => n = l.length ∧ 0 ≤ i ∧ i ≤ n ∧ (l.length:Int) < 2 ^ 62 ∧ ∀ x ∈ l,(0 ≤ x ∧ x < 1024) ∧ 0 ≤ x0 ∧ x0 < 1024
def O_ixCL:List Int × Unit × Int × Int × Int × Unit → Tree (Exit × St):=fun (l,_,n,i,x0,_) => .cond ((l.drop i.toNat).any (cinS x0)) (.leaf (.ret,L_ixCL_1.st (usd noU (L_ixC0.ids ++ rowIds rowBase L_ixC0.shs)) (ixR (cinS x0) l i,x0,()))) (.leaf (.exit 0,L_ixCL_0.st (usd noU (L_ixC0.ids ++ rowIds rowBase L_ixC0.shs)) (x0,())))
def R_ixCL:LRun:=runOf 19 L_ixCL (fun x => x) (inv_ixCL) (O_ixCL)
theorem K_ixCL:LoopOk P [] 19 none (usd noU (L_ixC0.ids ++ rowIds rowBase L_ixC0.shs)) C_ixCL (R_ixCL):=by
  refine loop_of hm (cx:=[c_cuts1.gc]) [] (xl:=X_ixCL) (α:=List Int × Unit × Int × Int × Int × Unit) (fun x => x) (fun (l,_,n,i,x0,_) => (n - i).toNat) (fun _ => rfl) (by kernel_rfl) (by kernel_rfl) ?_ (by kernel_rfl) trivial ?_
  · intro e S L' h
    unfold X_ixCL at h
    split at h <;> first | (cases h; done) | (cases h; kernel_rfl) | (rcases bif_some h with h | h <;> cases h <;> kernel_rfl)
  · rintro ⟨l,⟨⟩,n,i,x0,⟨⟩⟩ hinv Q hQ
    refine hold_of_eq (B_ixCL l n i x0) ?_
    obtain ⟨rfl,h0,h1,h2,h9⟩:=hinv
    rw [W_id (n:=i + 1) (by omega) (by omega)]
    unfold O_ixCL at hQ
    dsimp only at hQ
    refine ⟨fun hi => ?_,fun hi => ?_⟩
    · simp only [decide_eq_true_eq] at hi
      have hm:((l.length:Int) - (i + 1)).toNat < ((l.length:Int) - i).toNat:=by omega
      obtain ⟨e1,e2,e3⟩:=ix_step (p:=cinS x0) (0:Int) h0 hi
      rw [e1] at hQ
      refine ⟨⟨h0,hi⟩,h9 _ (getD_mem (d:=(0:Int)) (show i.toNat < l.length by omega)),fun hp => ?_,fun hp => ?_⟩
      · replace hp:(cinS x0) (l.getD i.toNat (0:Int)) = true:=hp
        rw [hp,Bool.true_or,e2 hp] at hQ
        exact hQ.1 rfl
      · replace hp:(cinS x0) (l.getD i.toNat (0:Int)) = false:=hp
        rw [hp,Bool.false_or,e3 hp] at hQ
        exact ⟨⟨⟨rfl,by omega,by omega,h2,h9⟩,hm⟩,hQ⟩
    · simp only [decide_eq_false_iff_not] at hi
      rw [drop_end hi] at hQ
      exact hQ.2 rfl
def L_ixC:Lay:={ slots:=[(0,.val (.sl tU)),(1,.clo 86 [(1,0)])],boxes:=[(1,[.val tU])] }
theorem T_ixC (l:List Int) (x0:Int):mTree (P:=P) [] (lpOf [(0,R_ixCL)]) Tryz.f122 L_ixC true (l,(),x0,()) =
  Tree.need (inv_ixCL (l,(),(l.length:Int),(0:Int),x0,())) (.cond (List.any (List.drop (Int.toNat (0:Int)) l) (cinS x0)) (.leaf { res:=SV.int IntKind.i64 (ixR (cinS x0) l (0:Int)),boxes:=[[SV.int IntKind.u64 x0]] }) (.leaf { res:=SV.int IntKind.i64 (-1:Int),boxes:=[[SV.int IntKind.u64 x0]] })):=by kernel_rfl
def c_ixC:MC P:=MC.of (α:=List Int × Unit × Int × Unit) 122 L_ixC (fun x => x) (fun x => x) (fun _ => rfl)
  (fun (l,_,x0,_) => some ((l.length:Int) < 2 ^ 62 ∧ ∀ x ∈ l,(0 ≤ x ∧ x < 1024) ∧ 0 ≤ x0 ∧ x0 < 1024))
  (fun (l,_,x0,_) => ⟨.int .i64 (ixS (cinS x0) l),[[.int .u64 x0]],[]⟩) (by kernel_rfl) (by kernel_rfl) (by kernel_rfl) (by
    rintro ⟨l,⟨⟩,x0,⟨⟩⟩ hp
    refine m_of hm (own:=true) (by kernel_rfl) (by kernel_rfl) (by kernel_rfl) (T_ixC l x0) ⟨K_ixCL,trivial⟩ ?_
    refine ⟨⟨rfl,by omega,by omega,hp.1,hp.2⟩,fun h => ?_,fun h => ?_⟩
    · simp only [Int.toNat_zero,List.drop_zero] at h
      have e:ixR (cinS x0) l 0 = ixS (cinS x0) l:=by
        unfold ixS ixR
        rw [if_pos h]
        simp only [Int.toNat_zero,List.drop_zero,Int.zero_add]
      exact congrArg (fun k:Int => (⟨.int .i64 k,[[.int .u64 x0]],[]⟩ : MOut)) e
    · simp only [Int.toNat_zero,List.drop_zero] at h
      have e : -1 = ixS (cinS x0) l:=by
        unfold ixS
        rw [if_neg (by simp only [h]; decide)]
      exact congrArg (fun k:Int => (⟨.int .i64 k,[[.int .u64 x0]],[]⟩ : MOut)) e)
def L_ixCC:Lay:={ slots:=[(0,.val (.sl tU)),(1,.clo 86 [(1,0)])],boxes:=[(1,[.val tU])] }
theorem T_ixCC (l:List Int) (x0:Int):mTree (P:=P) [c_ixC.gc] (lpOf []) Tryz.f85 L_ixCC true (l,(),x0,()) =
  Tree.need ((l.length:Int) < (2:Int) ^ (62:Nat) ∧ ∀ (x:Int),x ∈ l → ((0:Int) ≤ x ∧ x < (1024:Int)) ∧ (0:Int) ≤ x0 ∧ x0 < (1024:Int)) (.leaf { res:=SV.bool (decide (ixS (cinS x0) l ≥ (0:Int))),boxes:=[[SV.int IntKind.u64 x0]] }):=by kernel_rfl
def c_ixCC:MC P:=MC.of (α:=List Int × Unit × Int × Unit) 85 L_ixCC (fun x => x) (fun x => x) (fun _ => rfl)
  (fun (l,_,x0,_) => some ((l.length:Int) < 2 ^ 62 ∧ ∀ x ∈ l,(0 ≤ x ∧ x < 1024) ∧ 0 ≤ x0 ∧ x0 < 1024))
  (fun (l,_,x0,_) => ⟨.bool (l.any (cinS x0)),[[.int .u64 x0]],[]⟩) (by kernel_rfl) (by kernel_rfl) (by kernel_rfl) (by
    rintro ⟨l,⟨⟩,x0,⟨⟩⟩ hp
    refine m_of hm (own:=true) (by kernel_rfl) (by kernel_rfl) (by kernel_rfl) (T_ixCC l x0) trivial ?_
    exact ⟨hp,congrArg (fun k:Bool => (⟨.bool k,[[.int .u64 x0]],[]⟩ : MOut)) (ixS_ge (cinS x0) l)⟩)
theorem U_id {n:Int} (h0:0 ≤ n) (h1:n < 18446744073709551616):IntKind.u64.wrap n = n:=by rw [IntKind.wrap_u64]; omega
theorem woN {a b:Nat} (ha:a < 18446744073709551616) (hb:b < 18446744073709551616):bits .andNot .u64 (a:Int) (b:Int) = ((wo a b:Nat):Int):=u64_andNot_nat a b ha hb
theorem any_cin (s:Nat) (cuts:List Int):cuts.any (cinS (s:Int)) = cuts.any fun c => decide (c.toNat &&& s = c.toNat):=by
  unfold cinS
  rw [Int.toNat_natCast]
theorem szS_rng {N A:Nat} {hd:Nat → Bool} (hN:N ≤ 1024):∀ {m:Nat} {k:Int} {cuts:List Int},(∀ c ∈ cuts,0 ≤ c ∧ c < 1024) → ∀ c ∈ szS N A hd m k cuts,0 ≤ c ∧ c < 1024
  | 0,k,cuts,h => h
  | m + 1,k,cuts,h => by
    rw [szS]
    refine szS_rng hN fun c hc => ?_
    have hr:∀ x ∈ smS A hd k cuts N 0,0 ≤ x ∧ x < 1024:=fun x hx => by
      have:=smS_mem.1 hx
      omega
    rcases List.mem_append.1 hc with hc | hc
    · exact h c hc
    · exact hr c ((sortS_mem hr).1 hc)
def c_ixCL:GC P:=GC.lend c_ixCC.gc
def L_cut2:Lay:={ slots:=[(3,.ptr 4088 0),(7,.val (.int .u64)),(8,.row 123 (.int .u64)),(9,.val tI),(10,.row 123 (.int .u64)),(37,.val tI),(38,.val tI)],boxes:=[(4088,[.val (.sl (.pair tI tV)),.val (.sl tIs),.val tI])] }
def L_cut2_0:Lay:={ slots:=[(3,.ptr 4088 0),(7,.val (.int .u64)),(8,.row 123 (.int .u64)),(9,.val tI),(10,.row 123 (.int .u64))],boxes:=[(4088,[.val (.sl (.pair tI tV)),.val (.sl tIs),.val tI])] }
def X_cut2:Exit → St → Option Lay
  | .exit 2,_ => some L_cut2_0
  | _,_ => none
abbrev C_cut2:Code:=loopC (inner (loopC (bodyOf Tryz.f36) 0)) 2
theorem B_cut2 (all:Int) (cuts:List Int) (size:Int) (same:List Int) (N n:Int) (els:List (Int × V)) (envs:List (List Int)) (need:Int):loopBodyA (P:=P) [c_ones.gc,c_proofU.gc,c_ixCL] (lpOf []) [] 88 noU (inner C_cut2) L_cut2 X_cut2 (α:=Unit × Int × List Int × Int × List Int × Int × Int × List (Int × V) × List (List Int) × Int × Unit) (fun x => x) (fun x => x) ((),all,cuts,size,same,N,n,els,envs,need,()) =
  Tree.cond (decide (n < N)) (.need ((0:Int) ≤ IntKind.u64.wrap n ∧ IntKind.u64.wrap n < (1024:Int)) (.cond ((↑(cnt (Int.toNat (IntKind.u64.wrap n))):Int) != size) (.leaf (Sum.inl ((),all,cuts,size,same,N,IntKind.i64.wrap (n + (1:Int)),els,envs,need,()))) (.cond (bits BinOp.andNot IntKind.u64 (IntKind.u64.wrap n) all != (0:Int)) (.leaf (Sum.inl ((),all,cuts,size,same,N,IntKind.i64.wrap (n + (1:Int)),els,envs,need,()))) (.need (List.length envs ≤ (1000:Nat) ∧ (∀ (q:List Int),q ∈ envs → idxOk (10:Int) q) ∧ ((0:Int) ≤ bits BinOp.andNot IntKind.u64 all (IntKind.u64.wrap n) ∧ bits BinOp.andNot IntKind.u64 all (IntKind.u64.wrap n) < (1024:Int)) ∧ (1:Int) ≤ need ∧ need ≤ (3:Int)) (.cond (!List.isEmpty (Option.getD (prfU envs (standN (Int.toNat (bits BinOp.andNot IntKind.u64 all (IntKind.u64.wrap n))) envs (0:Int)) (0:Nat) [] (Int.toNat need)) [])) (.leaf (Sum.inl ((),all,cuts,size,same,N,IntKind.i64.wrap (n + (1:Int)),els,envs,need,()))) (.need ((cuts.length:Int) < (2:Int) ^ (62:Nat) ∧ ∀ (x:Int),x ∈ cuts → ((0:Int) ≤ x ∧ x < (1024:Int)) ∧ (0:Int) ≤ IntKind.u64.wrap n ∧ IntKind.u64.wrap n < (1024:Int)) (.cond (!List.any cuts (cinS (IntKind.u64.wrap n))) (.need ((List.length same + List.length [IntKind.u64.wrap n]) * (8:Nat) ≤ (140737488355328:Nat)) (.leaf (Sum.inl ((),all,cuts,size,same ++ [IntKind.u64.wrap n],N,IntKind.i64.wrap (n + (1:Int)),els,envs,need,())))) (.leaf (Sum.inl ((),all,cuts,size,same,N,IntKind.i64.wrap (n + (1:Int)),els,envs,need,())))))))))) (.leaf (Sum.inr (Exit.exit (2:Nat),Lay.st L_cut2_0 noU ((),all,cuts,size,same,els,envs,need,())))):=by kernel_rfl
def inv_cut2:Unit × Int × List Int × Int × List Int × Int × Int × List (Int × V) × List (List Int) × Int × Unit → Prop:=fun ((),all,cuts,size,same,N,n,els,envs,need,()) => houseE (els,envs,need) = 0 ∧ N = ((2 ^ els.length:Nat):Int) ∧ 0 ≤ n ∧ n ≤ N ∧ (same.length:Int) ≤ n ∧ (∀ x ∈ cuts,0 ≤ x ∧ x < 1024) ∧ cuts.length ≤ 20000 ∧ 0 ≤ all ∧ all < N
def O_cut2:Unit × Int × List Int × Int × List Int × Int × Int × List (Int × V) × List (List Int) × Int × Unit → Tree (Exit × St):=fun ((),all,cuts,size,same,N,n,els,envs,need,()) => (.leaf (.exit 2,L_cut2_0.st noU ((),all,cuts,size,(same ++ smS all.toNat (hdM (els,envs,need)) size cuts (N - n).toNat n),els,envs,need,())))
def R_cut2:LRun:=runOf 88 L_cut2 (fun x => x) (inv_cut2) (O_cut2)
theorem K_cut2:LoopOk P [] 88 none noU C_cut2 (R_cut2):=by
  refine loop_of hm (cx:=[c_ones.gc,c_proofU.gc,c_ixCL]) [] (xl:=X_cut2) (α:=Unit × Int × List Int × Int × List Int × Int × Int × List (Int × V) × List (List Int) × Int × Unit) (fun x => x) (fun ((),all,cuts,size,same,N,n,els,envs,need,()) => (N - n).toNat) (fun _ => rfl) (by kernel_rfl) (by kernel_rfl) ?_ (by kernel_rfl) trivial ?_
  · intro e S L' h
    unfold X_cut2 at h
    split at h <;> first | (cases h; done) | (cases h; kernel_rfl) | (rcases bif_some h with h | h <;> cases h <;> kernel_rfl)
  · rintro ⟨⟨⟩,all,cuts,size,same,N,n,els,envs,need,⟨⟩⟩ hinv Q hQ
    refine hold_of_eq (B_cut2 all cuts size same N n els envs need) ?_
    obtain ⟨he,hN,h0,h1,h2,h3,h4,h5,h6⟩:=hinv
    have k:=houseE_ok he
    have k10:=k.e10
    have k8:=k.v8
    have kn:=k.nd
    have kx:=k.idx
    have hp:=pow_le k10
    dsimp only at k10 hp k8 kn kx
    obtain ⟨m,rfl⟩:=Int.eq_ofNat_of_zero_le h0
    obtain ⟨A,rfl⟩:=Int.eq_ofNat_of_zero_le h5
    unfold O_cut2 at hQ
    dsimp only at hQ
    refine ⟨fun c1 => ?_,fun c1 => ?_⟩
    · have c1:=of_decide_eq_true c1
      have hmN:m < 2 ^ els.length:=by omega
      have hAN:A < 2 ^ els.length:=by omega
      have hw:=wo_lt (n:=els.length) (by omega) hAN (show m < 2 ^ 64 by omega)
      have hhd:(!((prfU envs (standN (wo A m) envs 0) 0 [] need.toNat).getD []).isEmpty) = hdM (els,envs,need) (wo A m):=prfU_hd k hw
      rw [U_id (by omega) (by omega),W_id (by omega) (by omega),Int.toNat_natCast,woN (by omega) (by omega),woN (by omega) (by omega),Int.toNat_natCast,hhd,any_cin]
      rw [show (N - (m:Int)).toNat = (N - ((m:Int) + 1)).toNat + 1 by omega,smS,Int.toNat_natCast] at hQ
      have inv:∀ q:List Int,(q.length:Int) ≤ (m:Int) + 1 → inv_cut2 ((),(A:Int),cuts,size,q,N,(m:Int) + 1,els,envs,need,()):=fun q hq => ⟨he,hN,by omega,by omega,hq,h3,h4,h5,h6⟩
      have mm:(N - ((m:Int) + 1)).toNat < (N - (m:Int)).toNat:=by omega
      have no:tkS A (hdM (els,envs,need)) size cuts (m:Int) = false → Tree.holds Q (O_cut2 ((),(A:Int),cuts,size,same,N,(m:Int) + 1,els,envs,need,())):=fun h => by
        rw [if_neg (by rw [h]; decide)] at hQ
        unfold O_cut2
        dsimp only
        rw [Int.toNat_natCast]
        exact hQ
      have tk:∀ b,tkS A (hdM (els,envs,need)) size cuts (m:Int) = b ↔ (decide ((cnt m:Int) = size) && (decide (wo m A = 0) && (!hdM (els,envs,need) (wo A m) && !(cuts.any fun c => decide (c.toNat &&& m = c.toNat))))) = b:=fun b => by
        unfold tkS
        rw [Int.toNat_natCast]
      refine ⟨⟨by omega,by omega⟩,⟨fun c2 => ?_,fun c2 => ⟨fun c3 => ?_,fun c3 => ⟨⟨by omega,kx,⟨by omega,by omega⟩,kn⟩,⟨fun c4 => ?_,fun c4 => ⟨⟨by omega,fun x hx => ⟨h3 x hx,by omega,by omega⟩⟩,⟨fun c5 => ⟨?_,?_⟩,fun c5 => ?_⟩⟩⟩⟩⟩⟩⟩
      · have c2:¬ (cnt m:Int) = size:=by simpa using c2
        exact ⟨⟨inv _ (by omega),mm⟩,no ((tk _).2 (by rw [decide_eq_false c2,Bool.false_and]))⟩
      · have c3:¬ wo m A = 0:=by simpa using c3
        exact ⟨⟨inv _ (by omega),mm⟩,no ((tk _).2 (by rw [decide_eq_false c3,Bool.false_and,Bool.and_false]))⟩
      · exact ⟨⟨inv _ (by omega),mm⟩,no ((tk _).2 (by rw [c4,Bool.not_true,Bool.false_and,Bool.and_false,Bool.and_false]))⟩
      · simp only [List.length_cons,List.length_nil]; omega
      · have c2:(cnt m:Int) = size:=by simpa using c2
        have c3:wo m A = 0:=by simpa using c3
        rw [if_pos ((tk _).2 (by rw [decide_eq_true c2,decide_eq_true c3,c4,c5]; rfl)),List.append_cons] at hQ
        refine ⟨⟨inv _ (by simp only [List.length_append,List.length_cons,List.length_nil]; omega),mm⟩,?_⟩
        unfold O_cut2
        dsimp only
        rw [Int.toNat_natCast]
        exact hQ
      · exact ⟨⟨inv _ (by omega),mm⟩,no ((tk _).2 (by rw [c5,Bool.and_false,Bool.and_false,Bool.and_false]))⟩
    · have c1:=of_decide_eq_false c1
      rw [show (N - (m:Int)).toNat = 0 by omega,smS,List.append_nil] at hQ
      exact hQ
def L_cut0:Lay:={ slots:=[(3,.ptr 4088 0),(7,.val (.int .u64)),(8,.row 123 (.int .u64)),(9,.val tI)],boxes:=[(4088,[.val (.sl (.pair tI tV)),.val (.sl tIs),.val tI])] }
def L_cut0_0:Lay:={ slots:=[(8,.row 123 (.int .u64))] }
def X_cut0:Exit → St → Option Lay
  | .exit 0,_ => some L_cut0_0
  | _,_ => none
abbrev C_cut0:Code:=loopC (bodyOf Tryz.f36) 0
theorem B_cut0 (all:Int) (cuts:List Int) (size:Int) (els:List (Int × V)) (envs:List (List Int)) (need:Int):loopBodyA (P:=P) [c_sort] (lpOf [(2,R_cut2)]) [] 88 noU (inner C_cut0) L_cut0 X_cut0 (α:=Unit × Int × List Int × Int × List (Int × V) × List (List Int) × Int × Unit) (fun x => x) (fun x => x) ((),all,cuts,size,els,envs,need,()) =
  Tree.cond (decide (size ≤ (10:Int))) (.need ((0:Int) ≤ (els.length:Int)) (.need (inv_cut2 ((),all,cuts,size,[],shlI IntKind.i64 (1:Int) (els.length:Int),(0:Int),els,envs,need,())) (.need ((↑(List.length (smS (Int.toNat all) (hdM (els,envs,need)) size cuts (Int.toNat (shlI IntKind.i64 (1:Int) (els.length:Int) - (0:Int))) (0:Int))):Int) < (4611686018427387904:Int) ∧ ∀ (x:Int),x ∈ intsOf (Ty.int IntKind.u64) (smS (Int.toNat all) (hdM (els,envs,need)) size cuts (Int.toNat (shlI IntKind.i64 (1:Int) (els.length:Int) - (0:Int))) (0:Int)) → (0:Int) ≤ x ∧ x < (1024:Int)) (.need ((List.length cuts + List.length (sortS (intsOf (Ty.int IntKind.u64) (smS (Int.toNat all) (hdM (els,envs,need)) size cuts (Int.toNat (shlI IntKind.i64 (1:Int) (els.length:Int) - (0:Int))) (0:Int))))) * (8:Nat) ≤ (140737488355328:Nat)) (.leaf (Sum.inl ((),all,cuts ++ sortS (intsOf (Ty.int IntKind.u64) (smS (Int.toNat all) (hdM (els,envs,need)) size cuts (Int.toNat (shlI IntKind.i64 (1:Int) (els.length:Int) - (0:Int))) (0:Int))),IntKind.i64.wrap (size + (1:Int)),els,envs,need,()))))))) (.leaf (Sum.inr (Exit.exit (0:Nat),Lay.st L_cut0_0 noU (cuts,())))):=by kernel_rfl
def inv_cut0:Unit × Int × List Int × Int × List (Int × V) × List (List Int) × Int × Unit → Prop:=fun ((),all,cuts,size,els,envs,need,()) => houseE (els,envs,need) = 0 ∧ 1 ≤ size ∧ size ≤ 11 ∧ (∀ x ∈ cuts,0 ≤ x ∧ x < 1024) ∧ (cuts.length:Int) ≤ 1024 * (size - 1) ∧ 0 ≤ all ∧ all < ((2 ^ els.length:Nat):Int)
def O_cut0:Unit × Int × List Int × Int × List (Int × V) × List (List Int) × Int × Unit → Tree (Exit × St):=fun ((),all,cuts,size,els,envs,need,()) => (.leaf (.exit 0,L_cut0_0.st noU ((szS (2 ^ els.length) all.toNat (hdM (els,envs,need)) (11 - size).toNat size cuts),())))
def R_cut0:LRun:=runOf 88 L_cut0 (fun x => x) (inv_cut0) (O_cut0)
theorem K_cut0:LoopOk P [] 88 none noU C_cut0 (R_cut0):=by
  refine loop_of hm (cx:=[c_sort]) [(2,R_cut2)] (xl:=X_cut0) (α:=Unit × Int × List Int × Int × List (Int × V) × List (List Int) × Int × Unit) (fun x => x) (fun ((),all,cuts,size,els,envs,need,()) => (11 - size).toNat) (fun _ => rfl) (by kernel_rfl) (by kernel_rfl) ?_ (by kernel_rfl) ⟨K_cut2,trivial⟩ ?_
  · intro e S L' h
    unfold X_cut0 at h
    split at h <;> first | (cases h; done) | (cases h; kernel_rfl) | (rcases bif_some h with h | h <;> cases h <;> kernel_rfl)
  · rintro ⟨⟨⟩,all,cuts,size,els,envs,need,⟨⟩⟩ hinv Q hQ
    refine hold_of_eq (B_cut0 all cuts size els envs need) ?_
    obtain ⟨he,h0,h1,h2,h3,h4,h5⟩:=hinv
    have k:=houseE_ok he
    have k10:=k.e10
    have hp:=pow_le k10
    dsimp only at k10 hp
    obtain ⟨A,rfl⟩:=Int.eq_ofNat_of_zero_le h4
    unfold O_cut0 at hQ
    dsimp only at hQ
    rw [Int.toNat_natCast] at *
    refine ⟨fun c1 => ?_,fun c1 => ?_⟩
    · have c1:=of_decide_eq_true c1
      rw [shlL (by omega) (by omega),W_id (by omega) (by omega),Int.toNat_natCast,Int.sub_zero,Int.toNat_natCast]
      rw [show (11 - size).toNat = (11 - (size + 1)).toNat + 1 by omega,szS] at hQ
      have hm:∀ x ∈ smS A (hdM (els,envs,need)) size cuts (2 ^ els.length) 0,0 ≤ x ∧ x < 1024:=fun x hx => by
        have:=smS_mem.1 hx
        omega
      have hl:=@smS_len A (hdM (els,envs,need)) size cuts (2 ^ els.length) 0
      have hs:=sortS_len (smS A (hdM (els,envs,need)) size cuts (2 ^ els.length) 0)
      refine ⟨by omega,⟨he,rfl,by decide,by omega,by decide,h2,by omega,h4,h5⟩,⟨by omega,hm⟩,?_,?_⟩
      · show (cuts.length + (sortS (smS A (hdM (els,envs,need)) size cuts (2 ^ els.length) 0)).length) * 8 ≤ _
        omega
      · refine ⟨⟨⟨he,by omega,by omega,fun x hx => ?_,?_,h4,h5⟩,by show (11 - (size + 1)).toNat < (11 - size).toNat; omega⟩,?_⟩
        · rcases List.mem_append.1 hx with hx | hx
          · exact h2 x hx
          · exact hm x ((sortS_mem hm).1 hx)
        · show ((cuts ++ sortS (smS A (hdM (els,envs,need)) size cuts (2 ^ els.length) 0)).length:Int) ≤ _
          rw [List.length_append]; omega
        · unfold O_cut0
          dsimp only
          rw [Int.toNat_natCast]
          exact hQ
    · have c1:=of_decide_eq_false c1
      rw [show (11 - size).toNat = 0 by omega,szS] at hQ
      exact hQ
def L_cut4:Lay:={ slots:=[(13,.row 31 tIs),(75,.row 123 (.int .u64)),(76,.val tI),(77,.val tI)] }
def L_cut4_0:Lay:={ slots:=[(13,.row 31 tIs)] }
def X_cut4:Exit → St → Option Lay
  | .exit 4,_ => some L_cut4_0
  | _,_ => none
abbrev C_cut4:Code:=loopC (bodyOf Tryz.f36) 4
theorem B_cut4 (out:List (List Int)) (l:List Int) (m i:Int):loopBodyA (P:=P) [c_list.gc] (lpOf []) [] 88 noU (inner C_cut4) L_cut4 X_cut4 (α:=List (List Int) × List Int × Int × Int × Unit) (fun x => x) (fun x => x) (out,l,m,i,()) =
  Tree.cond (decide (i < m)) (.need ((0:Int) ≤ i ∧ i < (l.length:Int)) (.need (Int.toNat i < List.length l) (.need ((0:Int) ≤ List.getD l (Int.toNat i) (0:Int) ∧ List.getD l (Int.toNat i) (0:Int) < (1024:Int)) (.need ((List.length out + List.length [lsI (Int.toNat (List.getD l (Int.toNat i) (0:Int)))]) * (24:Nat) ≤ (140737488355328:Nat)) (.leaf (Sum.inl (out ++ [lsI (Int.toNat (List.getD l (Int.toNat i) (0:Int)))],l,m,IntKind.i64.wrap (i + (1:Int)),()))))))) (.leaf (Sum.inr (Exit.exit (4:Nat),Lay.st L_cut4_0 noU (out,())))):=by kernel_rfl
def inv_cut4:List (List Int) × List Int × Int × Int × Unit → Prop:=fun (out,l,m,i,()) => m = l.length ∧ 0 ≤ i ∧ i ≤ m ∧ (out.length:Int) ≤ i ∧ l.length ≤ 20000 ∧ ∀ x ∈ l,0 ≤ x ∧ x < 1024
def O_cut4:List (List Int) × List Int × Int × Int × Unit → Tree (Exit × St):=fun (out,l,m,i,()) => (.leaf (.exit 4,L_cut4_0.st noU ((out ++ (l.drop i.toNat).map fun c => lsI c.toNat),())))
def R_cut4:LRun:=runOf 88 L_cut4 (fun x => x) (inv_cut4) (O_cut4)
theorem K_cut4:LoopOk P [] 88 none noU C_cut4 (R_cut4):=by
  refine loop_of hm (cx:=[c_list.gc]) [] (xl:=X_cut4) (α:=List (List Int) × List Int × Int × Int × Unit) (fun x => x) (fun (out,l,m,i,()) => (m - i).toNat) (fun _ => rfl) (by kernel_rfl) (by kernel_rfl) ?_ (by kernel_rfl) trivial ?_
  · intro e S L' h
    unfold X_cut4 at h
    split at h <;> first | (cases h; done) | (cases h; kernel_rfl) | (rcases bif_some h with h | h <;> cases h <;> kernel_rfl)
  · rintro ⟨out,l,m,i,⟨⟩⟩ hinv Q hQ
    refine hold_of_eq (B_cut4 out l m i) ?_
    obtain ⟨rfl,h0,h1,h2,h3,h4⟩:=hinv
    unfold O_cut4 at hQ
    dsimp only at hQ
    rw [W_id (n:=i + 1) (by omega) (by omega)]
    refine ⟨fun c1 => ?_,fun c1 => ?_⟩
    · have c1:=of_decide_eq_true c1
      have hy:=h4 _ (getD_mem (d:=(0:Int)) (show i.toNat < l.length by omega))
      rw [drop_step (0:Int) h0 c1,List.map_cons,List.append_cons] at hQ
      refine ⟨⟨h0,c1⟩,by omega,hy,by simp only [List.length_cons,List.length_nil]; omega,⟨⟨rfl,by omega,by omega,by simp only [List.length_append,List.length_cons,List.length_nil]; omega,h3,h4⟩,by show ((l.length:Int) - (i + 1)).toNat < ((l.length:Int) - i).toNat; omega⟩,hQ⟩
    · have key:∀ z:List (List Int),z = out → Tree.holds Q (.leaf (.exit 4,L_cut4_0.st noU (z,()))) → Tree.holds Q (.leaf (.exit 4,L_cut4_0.st noU (out,()))):=fun z hz h => hz ▸ h
      exact key _ (by rw [drop_end (of_decide_eq_false c1),List.map_nil,List.append_nil]) hQ
theorem T_Cuts (h_0:List (Int × V)) (h_1:List (List Int)) (h_2 tick press:Int):fnTree (P:=P) [c_House.gc,c_holds.gc,c_works.gc] (lpOf [(0,R_cut0),(4,R_cut4)]) Tryz.f36 (encL 0 [.agg (.pair (.sl (.pair tI tV)) (.pair (.sl tIs) tI)),.val tI,.val tI] ((h_0,(h_1,h_2)),tick,press,())) =
  Tree.need (hOk (h_0,h_1,h_2)) (.cond (houseE (h_0,h_1,h_2) != (0:Int)) (.leaf SV.nils) (.need (houseE (h_0,h_1,h_2) = (0:Int)) (.cond (!holdsS (h_0,h_1,h_2) tick press) (.leaf SV.nils) (.need (List.length h_0 ≤ (10:Nat)) (.need (inv_cut0 ((),(↑(worksN tick press h_0 (0:Nat) (0:Nat)):Int),[],(1:Int),h_0,h_1,h_2,())) (.need (inv_cut4 ([],szS ((2:Nat) ^ List.length h_0) (Int.toNat (↑(worksN tick press h_0 (0:Nat) (0:Nat)):Int)) (hdM (h_0,h_1,h_2)) (Int.toNat ((11:Int) - (1:Int))) (1:Int) [],(↑(List.length (szS ((2:Nat) ^ List.length h_0) (Int.toNat (↑(worksN tick press h_0 (0:Nat) (0:Nat)):Int)) (hdM (h_0,h_1,h_2)) (Int.toNat ((11:Int) - (1:Int))) (1:Int) [])):Int),(0:Int),())) (.leaf (SV.sl (Ty.sl tI) (List.map (fun c => lsI (Int.toNat c)) (List.drop (Int.toNat (0:Int)) (szS ((2:Nat) ^ List.length h_0) (Int.toNat (↑(worksN tick press h_0 (0:Nat) (0:Nat)):Int)) (hdM (h_0,h_1,h_2)) (Int.toNat ((11:Int) - (1:Int))) (1:Int) []))))))))))):=by kernel_rfl
def c_Cuts:PC P:=PC.of (α:=(List (Int × V) × (List (List Int) × Int)) × Int × Int × Unit) 36 [.agg (.pair (.sl (.pair tI tV)) (.pair (.sl tIs) tI)),.val tI,.val tI] (fun x => x) (fun x => x) (fun _ => rfl)
  (fun x => some (hOk x.1))
  (fun x => .sl tIs (cutsS x.1 x.2.1 x.2.2.1)) (by kernel_rfl) (by
    rintro ⟨⟨h_0,⟨h_1,h_2⟩⟩,tick,press,⟨⟩⟩ hp
    refine fn_le hm (by kernel_rfl) (by kernel_rfl) (T_Cuts h_0 h_1 h_2 tick press) ⟨K_cut0,K_cut4,trivial⟩ (by kernel_rfl) ?_
    try dsimp only at hp
    try dsimp only
    have hp' : hOk (h_0,(h_1,h_2)):=hp
    show Tree.holds (fun s => LeS s (SV.sl tIs (cutsS (h_0,(h_1,h_2)) tick press))) _
    unfold cutsS
    refine ⟨hp',⟨fun c1 => ?_,fun c1 => ?_⟩⟩
    · rw [if_pos (.inl (by simpa using c1))]; exact rfl
    have c1:houseE (h_0,(h_1,h_2)) = 0:=by simpa using c1
    have k:=houseE_ok c1
    have k10:=k.e10
    have hpw:=pow_le k10
    have hW:=wkS_lt (h_0,(h_1,h_2)) tick press
    unfold wkS at hW
    dsimp only at k10 hpw hW
    have hl:=@szS_len (2 ^ h_0.length) (worksN tick press h_0 0 0) (hdM (h_0,(h_1,h_2))) 10 1 []
    refine ⟨c1,⟨fun c2 => ?_,fun c2 => ?_⟩⟩
    · rw [if_pos (.inr (by simpa using c2))]; exact rfl
    have c2:holdsS (h_0,(h_1,h_2)) tick press = true:=by simpa using c2
    have hne:¬ (houseE (h_0,(h_1,h_2)) ≠ 0 ∨ holdsS (h_0,(h_1,h_2)) tick press = false):=fun q => by
      rcases q with q | q
      · exact q c1
      · rw [c2] at q; cases q
    have hr:=szS_rng (A:=worksN tick press h_0 0 0) (hd:=hdM (h_0,(h_1,h_2))) hpw (m:=10) (k:=1) (cuts:=[]) (fun c hc => by cases hc)
    rw [if_neg hne,Int.toNat_natCast,show (11 - 1:Int).toNat = 10 from rfl]
    rw [List.length_nil] at hl
    exact ⟨k10,⟨c1,by decide,by decide,fun x hx => (by cases hx),by decide,by omega,by omega⟩,⟨rfl,by decide,by omega,by decide,by omega,hr⟩,rfl⟩)
end
end Go.MB
