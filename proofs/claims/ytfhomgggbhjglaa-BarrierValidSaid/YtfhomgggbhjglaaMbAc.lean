/- BarrierValid. -/
import Derived.Test.YtfhomgggbhjglaaMbAa
namespace Go.MB
open Go Go.Sx Go.Proofs
set_option linter.unusedVariables false
set_option linter.unusedSimpArgs false
noncomputable section
theorem doG_bad {s:Site} {e:Entry} (h:(doG s e).2 ≠ 0):(doG s e).1 = zSite:=by
  unfold doG at *
  split at h
  · rename_i c; rw [if_pos c]
  rename_i c1
  rw [if_neg c1]
  split at h
  · rename_i c; rw [if_pos c]
  rename_i c2
  rw [if_neg c2]
  split at h
  · rename_i c; rw [if_pos c]
  rename_i c3
  rw [if_neg c3]
  split at h
  · rename_i c; rw [if_pos c]
  rename_i c4
  rw [if_neg c4]
  split at h
  · rename_i c; rw [if_pos c]
  · exact absurd rfl h
theorem zSite_ok:sOk zSite:=⟨⟨by decide,by decide,fun q hq => by cases hq⟩,by decide⟩
def L_val0:Lay:={ slots:=[(3,.ptr 12065 0),(4,.ptr 5065 0),(5,.val tI)],boxes:=[(5065,[.val tI,.val tI,.val tI,.val tI,.val tI,.val (.sl (.pair tI tV)),.val (.sl tIs),.val tI,.val (.sl (.pair tI (.pair tI (.pair tI .bool)))),.val tI]),(12065,[.val tIs,.val tI])] }
def L_val0_0:Lay:={ slots:=[(2,.val .bool)] }
def L_val0_1:Lay:={ slots:=[] }
def X_val0:Exit → St → Option Lay
  | .ret,_ => some L_val0_0
  | .exit 0,_ => some L_val0_1
  | _,_ => none
abbrev C_val0:Code:=loopC (bodyOf Try.f5) 0
theorem B_val0 (i x0 x1 x2 x3 x4:Int) (x5:List (Int × V)) (x6:List (List Int)) (x7:Int) (x8:List (Int × (Int × (Int × Bool)))) (x9:Int) (l:List Int) (k:Int):loopBodyA (P:=P) [c_EntryOf.gc,c_DoX.gc,c_rCopy.gc,c_rSame.gc,c_Check.gc] (lpOf []) [] 65 noU (inner C_val0) L_val0 X_val0 (α:=Unit × Unit × Int × Int × Int × Int × Int × Int × List (Int × V) × List (List Int) × Int × List (Int × (Int × (Int × Bool))) × Int × List Int × Int × Unit) (fun x => x) (fun x => x) ((),(),i,x0,x1,x2,x3,x4,x5,x6,x7,x8,x9,l,k,()) =
  Tree.cond (decide (i < (20:Int))) (.need (pr_EntryOf ((),(x0,x1,x2,x3,x4,(x5,x6,x7),x8,x9),(20:Int),l,k,())) (.need (sOk (x0,x1,x2,x3,x4,(x5,x6,x7),x8,x9)) (.need (sOk (x0,x1,x2,x3,x4,(x5,x6,x7),x8,x9) ∧ List.length x8 ≤ (900:Nat)) (.need (sOk (x0,x1,x2,x3,x4,(x5,x6,x7),x8,x9) ∧ sOk (x0,x1,x2,x3,x4,(x5,x6,x7),x8,x9)) (.cond (!sameB (x0,x1,x2,x3,x4,(x5,x6,x7),x8,x9) (x0,x1,x2,x3,x4,(x5,x6,x7),x8,x9)) (.leaf (Sum.inr (Exit.ret,Lay.st L_val0_0 noU (false,())))) (.cond ((dS (x0,x1,x2,x3,x4,(x5,x6,x7),x8,x9) (V_EntryOf ((),(x0,x1,x2,x3,x4,(x5,x6,x7),x8,x9),(20:Int),l,k,())).fst).snd != (0:Int)) (.need (sOk (dS (x0,x1,x2,x3,x4,(x5,x6,x7),x8,x9) (V_EntryOf ((),(x0,x1,x2,x3,x4,(x5,x6,x7),x8,x9),(20:Int),l,k,())).fst).fst ∧ sOk ((0:Int),(0:Int),(0:Int),(0:Int),(0:Int),([],[],(0:Int)),[],(0:Int))) (.cond (!sameB (dS (x0,x1,x2,x3,x4,(x5,x6,x7),x8,x9) (V_EntryOf ((),(x0,x1,x2,x3,x4,(x5,x6,x7),x8,x9),(20:Int),l,k,())).fst).fst ((0:Int),(0:Int),(0:Int),(0:Int),(0:Int),([],[],(0:Int)),[],(0:Int))) (.leaf (Sum.inr (Exit.ret,Lay.st L_val0_0 noU (false,())))) (.leaf (Sum.inl ((),(),IntKind.i64.wrap (i + (1:Int)),x0,x1,x2,x3,x4,x5,x6,x7,x8,x9,l,(V_EntryOf ((),(x0,x1,x2,x3,x4,(x5,x6,x7),x8,x9),(20:Int),l,k,())).snd,()))))) (.need (sOk (dS (x0,x1,x2,x3,x4,(x5,x6,x7),x8,x9) (V_EntryOf ((),(x0,x1,x2,x3,x4,(x5,x6,x7),x8,x9),(20:Int),l,k,())).fst).fst) (.cond (chkS (dS (x0,x1,x2,x3,x4,(x5,x6,x7),x8,x9) (V_EntryOf ((),(x0,x1,x2,x3,x4,(x5,x6,x7),x8,x9),(20:Int),l,k,())).fst).fst != (0:Int)) (.leaf (Sum.inr (Exit.ret,Lay.st L_val0_0 noU (false,())))) (.cond ((dS (x0,x1,x2,x3,x4,(x5,x6,x7),x8,x9) (V_EntryOf ((),(x0,x1,x2,x3,x4,(x5,x6,x7),x8,x9),(20:Int),l,k,())).fst).fst.fst != (V_EntryOf ((),(x0,x1,x2,x3,x4,(x5,x6,x7),x8,x9),(20:Int),l,k,())).fst.fst) (.leaf (Sum.inr (Exit.ret,Lay.st L_val0_0 noU (false,())))) (.cond ((↑(List.length (dS (x0,x1,x2,x3,x4,(x5,x6,x7),x8,x9) (V_EntryOf ((),(x0,x1,x2,x3,x4,(x5,x6,x7),x8,x9),(20:Int),l,k,())).fst).fst.snd.snd.snd.snd.snd.fst.fst):Int) != (x5.length:Int)) (.leaf (Sum.inr (Exit.ret,Lay.st L_val0_0 noU (false,())))) (.leaf (Sum.inl ((),(),IntKind.i64.wrap (i + (1:Int)),(dS (x0,x1,x2,x3,x4,(x5,x6,x7),x8,x9) (V_EntryOf ((),(x0,x1,x2,x3,x4,(x5,x6,x7),x8,x9),(20:Int),l,k,())).fst).fst.fst,(dS (x0,x1,x2,x3,x4,(x5,x6,x7),x8,x9) (V_EntryOf ((),(x0,x1,x2,x3,x4,(x5,x6,x7),x8,x9),(20:Int),l,k,())).fst).fst.snd.fst,(dS (x0,x1,x2,x3,x4,(x5,x6,x7),x8,x9) (V_EntryOf ((),(x0,x1,x2,x3,x4,(x5,x6,x7),x8,x9),(20:Int),l,k,())).fst).fst.snd.snd.fst,(dS (x0,x1,x2,x3,x4,(x5,x6,x7),x8,x9) (V_EntryOf ((),(x0,x1,x2,x3,x4,(x5,x6,x7),x8,x9),(20:Int),l,k,())).fst).fst.snd.snd.snd.fst,(dS (x0,x1,x2,x3,x4,(x5,x6,x7),x8,x9) (V_EntryOf ((),(x0,x1,x2,x3,x4,(x5,x6,x7),x8,x9),(20:Int),l,k,())).fst).fst.snd.snd.snd.snd.fst,(dS (x0,x1,x2,x3,x4,(x5,x6,x7),x8,x9) (V_EntryOf ((),(x0,x1,x2,x3,x4,(x5,x6,x7),x8,x9),(20:Int),l,k,())).fst).fst.snd.snd.snd.snd.snd.fst.fst,(dS (x0,x1,x2,x3,x4,(x5,x6,x7),x8,x9) (V_EntryOf ((),(x0,x1,x2,x3,x4,(x5,x6,x7),x8,x9),(20:Int),l,k,())).fst).fst.snd.snd.snd.snd.snd.fst.snd.fst,(dS (x0,x1,x2,x3,x4,(x5,x6,x7),x8,x9) (V_EntryOf ((),(x0,x1,x2,x3,x4,(x5,x6,x7),x8,x9),(20:Int),l,k,())).fst).fst.snd.snd.snd.snd.snd.fst.snd.snd,(dS (x0,x1,x2,x3,x4,(x5,x6,x7),x8,x9) (V_EntryOf ((),(x0,x1,x2,x3,x4,(x5,x6,x7),x8,x9),(20:Int),l,k,())).fst).fst.snd.snd.snd.snd.snd.snd.fst,(dS (x0,x1,x2,x3,x4,(x5,x6,x7),x8,x9) (V_EntryOf ((),(x0,x1,x2,x3,x4,(x5,x6,x7),x8,x9),(20:Int),l,k,())).fst).fst.snd.snd.snd.snd.snd.snd.snd,l,(V_EntryOf ((),(x0,x1,x2,x3,x4,(x5,x6,x7),x8,x9),(20:Int),l,k,())).snd,()))))))))))))) (.leaf (Sum.inr (Exit.exit (0:Nat),Lay.st L_val0_1 noU ()))):=by kernel_rfl
def inv_val0:Unit × Unit × Int × Int × Int × Int × Int × Int × List (Int × V) × List (List Int) × Int × List (Int × (Int × (Int × Bool))) × Int × List Int × Int × Unit → Prop:=fun ((),(),i,x0,x1,x2,x3,x4,x5,x6,x7,x8,x9,l,k,()) => SiteV (x0,x1,x2,x3,x4,(x5,x6,x7),x8,x9) ∧ 0 ≤ i ∧ i ≤ 20 ∧ 0 ≤ k ∧ k + 100 * (20 - i) ≤ 500000000
def O_val0:Unit × Unit × Int × Int × Int × Int × Int × Int × List (Int × V) × List (List Int) × Int × List (Int × (Int × (Int × Bool))) × Int × List Int × Int × Unit → Tree (Exit × St):=fun ((),(),i,x0,x1,x2,x3,x4,x5,x6,x7,x8,x9,l,k,()) => (.leaf (.exit 0,L_val0_1.st noU ()))
def R_val0:LRun:=runOf 65 L_val0 (fun x => x) (inv_val0) (O_val0)
theorem K_val0:LoopOk P [] 65 none noU C_val0 (R_val0):=by
  refine loop_of hm (cx:=[c_EntryOf.gc,c_DoX.gc,c_rCopy.gc,c_rSame.gc,c_Check.gc]) [] (xl:=X_val0) (α:=Unit × Unit × Int × Int × Int × Int × Int × Int × List (Int × V) × List (List Int) × Int × List (Int × (Int × (Int × Bool))) × Int × List Int × Int × Unit) (fun x => x) (fun ((),(),i,x0,x1,x2,x3,x4,x5,x6,x7,x8,x9,l,k,()) => (20 - i).toNat) (fun _ => rfl) (by kernel_rfl) (by kernel_rfl) ?_ (by kernel_rfl) trivial ?_
  · intro e S L' h
    unfold X_val0 at h
    split at h <;> first | (cases h; done) | (cases h; kernel_rfl) | (rcases bif_some h with h | h <;> cases h <;> kernel_rfl)
  · rintro ⟨⟨⟩,⟨⟩,i,x0,x1,x2,x3,x4,x5,x6,x7,x8,x9,l,k,⟨⟩⟩ hinv Q hQ
    refine hold_of_eq (B_val0 i x0 x1 x2 x3 x4 x5 x6 x7 x8 x9 l k) ?_
    obtain ⟨hv,h0,h1,h2,h3⟩:=hinv
    rw [W_id (n:=i + 1) (by omega) (by omega)]
    refine ⟨fun c1 => ?_,fun c1 => hQ⟩
    have d1:i < 20:=of_decide_eq_true c1
    have hm:(20 - (i + 1)).toNat < (20 - i).toNat:=by omega
    have hpr:pr_EntryOf ((),(x0,x1,x2,x3,x4,(x5,x6,x7),x8,x9),20,l,k,()):=⟨hv,by decide,by decide,h2,by omega⟩
    have hZ:=S_EntryOf _ hpr
    have hl9:x8.length ≤ 900:=by have:=hv.l4; dsimp only at this; omega
    refine ⟨hpr,⟨hv.sOk,⟨⟨hv.sOk,hl9⟩,⟨⟨hv.sOk,hv.sOk⟩,?_⟩⟩⟩⟩
    generalize V_EntryOf ((),(x0,x1,x2,x3,x4,(x5,x6,x7),x8,x9),20,l,k,()) = ek at *
    obtain ⟨⟨e0,e1,e2,e3,e4,e5⟩,k'⟩:=ek
    obtain ⟨z1,z2⟩ : k ≤ k' ∧ k' ≤ k + 100:=hZ
    rw [dS_ok hv.ok]
    dsimp only
    have key:=fun t => do_ok (s:=(x0,x1,x2,x3,x4,(x5,x6,x7),x8,x9)) (t:=t) (e:=(e0,e1,e2,e3,e4,e5)) hv.ok
    have kbad:=doG_bad (s:=(x0,x1,x2,x3,x4,(x5,x6,x7),x8,x9)) (e:=(e0,e1,e2,e3,e4,e5))
    generalize doG (x0,x1,x2,x3,x4,(x5,x6,x7),x8,x9) (e0,e1,e2,e3,e4,e5) = tf at *
    obtain ⟨t,f⟩:=tf
    dsimp only at kbad ⊢
    refine ⟨fun c2 => ?_,fun _ => ⟨fun c3 => ?_,fun c3 => ?_⟩⟩
    · rw [sameB_iff.2 rfl] at c2; cases c2
    · obtain rfl:t = zSite:=kbad (bneT c3)
      refine ⟨⟨zSite_ok,zSite_ok⟩,⟨fun c4 => ?_,fun c4 => ?_⟩⟩
      · have c4:sameB zSite zSite = false:=notT c4
        rw [sameB_iff.2 rfl] at c4; cases c4
      · exact ⟨⟨⟨hv,by omega,by omega,by omega,by omega⟩,hm⟩,hQ⟩
    · obtain rfl:f = 0:=bneF c3
      obtain ⟨g1,g2,g3,g4,g5,_⟩:=key t rfl
      have gv:=chkS_site g1
      have ge:t.2.2.2.2.2.1.1.length = x5.length:=by rw [g5]; exact g4.els
      refine ⟨gv.sOk,⟨fun c5 => absurd g1 (bneT c5),fun c5 => ⟨fun c6 => absurd g2 (bneT c6),fun c6 => ⟨fun c7 => ?_,fun c7 => ?_⟩⟩⟩⟩
      · have:=bneT c7
        omega
      · exact ⟨⟨⟨gv,by omega,by omega,by omega,by omega⟩,hm⟩,hQ⟩
theorem T_BarrierValid (s0:List Int):fnTree (P:=P) [c_NewRing.gc,c_SiteOf.gc,c_awake.gc,c_Check.gc] (lpOf [(0,R_val0)]) Try.f5 (encL 0 [.val tIs] (s0,())) =
  Tree.need (pr_SiteOf ((),s0,(0:Int),())) (.need (sOk (V_SiteOf ((),s0,(0:Int),())).fst) (.cond (chkS (V_SiteOf ((),s0,(0:Int),())).fst != (0:Int)) (.leaf (SV.bool false)) (.need (inv_val0 ((),(),(0:Int),(V_SiteOf ((),s0,(0:Int),())).fst.fst,(V_SiteOf ((),s0,(0:Int),())).fst.snd.fst,(V_SiteOf ((),s0,(0:Int),())).fst.snd.snd.fst,(V_SiteOf ((),s0,(0:Int),())).fst.snd.snd.snd.fst,(V_SiteOf ((),s0,(0:Int),())).fst.snd.snd.snd.snd.fst,(V_SiteOf ((),s0,(0:Int),())).fst.snd.snd.snd.snd.snd.fst.fst,(V_SiteOf ((),s0,(0:Int),())).fst.snd.snd.snd.snd.snd.fst.snd.fst,(V_SiteOf ((),s0,(0:Int),())).fst.snd.snd.snd.snd.snd.fst.snd.snd,(V_SiteOf ((),s0,(0:Int),())).fst.snd.snd.snd.snd.snd.snd.fst,(V_SiteOf ((),s0,(0:Int),())).fst.snd.snd.snd.snd.snd.snd.snd,s0,(V_SiteOf ((),s0,(0:Int),())).snd,())) (.leaf (SV.bool true))))):=by kernel_rfl
def c_BarrierValid:PC P:=PC.of (α:=List Int × Unit) 5 [.val tIs] (fun x => x) (fun x => x) (fun _ => rfl)
  (fun _ => none)
  (fun x => .bool true) (by kernel_rfl) (by
    rintro ⟨s0,⟨⟩⟩ hp
    refine fn_of hm (by kernel_rfl) (by kernel_rfl) (T_BarrierValid s0) ⟨K_val0,trivial⟩ ?_
    try dsimp only at hp
    try dsimp only
    have hpr:pr_SiteOf ((),s0,0,()):=⟨by decide,by decide⟩
    have hZ:=S_SiteOf _ hpr
    generalize V_SiteOf ((),s0,0,()) = sk at *
    obtain ⟨⟨t0,t1,t2,t3,t4,⟨t5,t6,t7⟩,t8,t9⟩,k'⟩:=sk
    obtain ⟨z0,z1,z2⟩ : SiteV (t0,t1,t2,t3,t4,(t5,t6,t7),t8,t9) ∧ 0 ≤ k' ∧ k' ≤ 0 + 1000:=hZ
    exact ⟨hpr,⟨z0.sOk,⟨fun c => absurd z0.ok (bneT c),fun _ => ⟨⟨z0,by decide,by decide,z1,by dsimp only; omega⟩,rfl⟩⟩⟩⟩)
end
end Go.MB
