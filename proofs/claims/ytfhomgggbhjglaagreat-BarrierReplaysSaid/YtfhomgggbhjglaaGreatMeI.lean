/- BarrierReplays. -/
import Derived.Test.YtfhomgggbhjglaaGreatMeH
import Derived.Test.YtfhomgggbhjglaaGreatMcH
import Derived.Test.YtfhomgggbhjglaaGreatMuK
namespace Go.MB
open Go Go.Sx Go.Proofs
set_option linter.unusedVariables false
set_option linter.unusedSimpArgs false
noncomputable section
theorem runG_app:∀ (x y:List Entry) (s:Site) (i:Int),runG s (x++y) i=if (runG s x i).2.2≠0 then runG s x i else runG (runG s x i).1 y (i+x.length)
 | [],y,s,i=>by
  rw[List.nil_append,List.length_nil,runG,if_neg (fun k=>k rfl)]
  exact congrArg (runG s y) (by omega)
 |e :: x,y,s,i=>by
  rw[List.cons_append,runG,runG]
  by_cases c:(doG s e).2≠0
  ·rw[if_pos c,if_pos c,if_pos c]
  ·rw[if_neg c,if_neg c,runG_app x y,List.length_cons]
   rw[show i+1+(x.length:Int)=i+((x.length+1:Nat):Int) by omega]
theorem runG_at:∀ (y:List Entry) (s:Site) (i:Int),((runG s y i).2.2≠0→i≤(runG s y i).2.1∧(runG s y i).2.1<i+y.length)∧runG s y i=((runG s y 0).1,(if (runG s y 0).2.2≠0 then (runG s y 0).2.1+i else -1),(runG s y 0).2.2)
 | [],s,i=>by
  rw[runG,runG,if_neg (fun k=>k rfl)]
  exact⟨fun k=>absurd rfl k,rfl⟩
 |e :: y,s,i=>by
  rw[runG,runG]
  by_cases c:(doG s e).2≠0
  ·rw[if_pos c,if_pos c]
   dsimp only
   rw[if_pos c]
   exact⟨fun _=>by rw[List.length_cons]; omega,by rw[Int.zero_add]⟩
  ·rw[if_neg c,if_neg c]
   have h1:=runG_at y (doG s e).1 (i+1)
   have h2:=runG_at y (doG s e).1 (0+1)
   refine⟨fun k=>by have:=h1.1 k; rw[List.length_cons]; omega,?_⟩
   rw[h1.2,h2.2]
   dsimp only
   by_cases d:(runG (doG s e).1 y 0).2.2≠0
   ·rw[if_pos d,if_pos d,if_pos d,show (runG (doG s e).1 y 0).2.1+(0+1)+i=(runG (doG s e).1 y 0).2.1+(i+1) by omega]
   ·rw[if_neg d,if_neg d]
theorem zSite_ok:sOk zSite:=⟨⟨by decide,by decide,fun q hq=>by cases hq⟩,by decide⟩
theorem runS_sOk (s:Site) (l:List Entry):sOk (runS s l).1:=by
 unfold runS
 split
 ·exact zSite_ok
 ·rename_i c
  split
  ·exact zSite_ok
  ·exact (chkS_site (runG_ok l s 0 (Decidable.not_not.1 c))).sOk
theorem runS_G {s:Site}{l:List Entry}(hc:chkS s=0) (hl:l.length≤200):runS s l=runG s l 0:=by
 unfold runS
 rw[if_neg (fun k=>k hc),if_neg (by omega)]
theorem part_ok {s:Site}{l:List Entry}(hc:chkS s=0) (hl:l.length≤200) (A:Nat) (hA:A≤l.length) :
  (0≤(runS s (l.take A)).2.1→runS s l=runS s (l.take A))∧(¬ 0≤(runS s (l.take A)).2.1→(runS s (l.take A)).2.2=0 ∧
   (0≤(runS (runS s (l.take A)).1 (l.drop A)).2.1→runS s l=((runS (runS s (l.take A)).1 (l.drop A)).1,(runS (runS s (l.take A)).1 (l.drop A)).2.1+A,(runS (runS s (l.take A)).1 (l.drop A)).2.2)∧(runS (runS s (l.take A)).1 (l.drop A)).2.1≤200) ∧
   (¬ 0≤(runS (runS s (l.take A)).1 (l.drop A)).2.1→runS s l=runS (runS s (l.take A)).1 (l.drop A))):=by
 have hX:runS s (l.take A)=runG s (l.take A) 0:=runS_G hc (by rw[List.length_take]; omega)
 have hR:runS s l=runG s (l.take A++l.drop A) 0:=by rw[List.take_append_drop]; exact runS_G hc hl
 have hx:=runG_ok (l.take A) s 0 hc
 rw[hX,hR,runG_app]
 have b:=runG_end (l.take A) s 0
 have f:=(runG_at (l.take A) s 0).1
 have hlen:((l.take A).length:Int)=A:=by rw[List.length_take]; omega
 rw[hlen]
 generalize runG s (l.take A) 0=X at *
 have hY:runS X.1 (l.drop A)=runG X.1 (l.drop A) 0:=runS_G hx (by rw[List.length_drop]; omega)
 rw[hY]
 have g:=runG_end (l.drop A) X.1 0
 have j:=(runG_at (l.drop A) X.1 0).1
 have m:=(runG_at (l.drop A) X.1 (0+(A:Int))).2
 have hd:(l.drop A).length≤200:=by rw[List.length_drop]; omega
 generalize runG X.1 (l.drop A) 0=Y at *
 rw[m]
 by_cases c:X.2.2=0
 ·have:=b c
  refine⟨fun h=>absurd h (by omega),fun _=>⟨c,?_⟩⟩
  rw[if_neg (fun k=>k c)]
  by_cases d:Y.2.2=0
  ·have:=g d
   refine⟨fun h=>absurd h (by omega),fun _=>?_⟩
   rw[if_neg (fun k=>k d)]
   exact Prod.ext rfl (Prod.ext this.symm rfl)
  ·have:=j d
   refine⟨fun _=>⟨?_,by omega⟩,fun h=>absurd this.1 h⟩
   rw[if_pos d,Int.zero_add]
 ·have:=f c
  exact⟨fun _=>if_pos c,fun h=>absurd this.1 h⟩
theorem T_awakeX (_:Unit):fnTree (P:=P) [c_shown.gc,c_place.gc,c_Proof.gc,c_DoX.gc,c_SameInts.gc] (lpOf []) Tryz.f11 (encL 0 [] ()) =
 Tree.need (hOk (shownH.1,shownH.2.1,(2:Int))) (.need (sOk ((0:Int),(3:Int),(0:Int),(-1:Int),(1000:Int),(shownH.1,shownH.2.1,(2:Int)),[],(-1:Int))∧(0:Nat)≤(900:Nat)) (.need (sOk ((0:Int),(3:Int),(0:Int),(-1:Int),(1000:Int),(shownH.1,shownH.2.1,(2:Int)),[],(-1:Int))∧(0:Nat)≤(900:Nat)) (.cond true (.need ((prS (shownH.1,shownH.2.1,(2:Int)) (10:Int) (1000:Int)).1=[(0:Int),(2:Int)]∧(↑(List.length (prS (shownH.1,shownH.2.1,(2:Int)) (10:Int) (1000:Int)).1):Int)<2 ^ (62:Nat)) (.cond true (.cond true (.cond true (.leaf (.bool true)) (.leaf (.bool false))) (.leaf (.bool false))) (.leaf (.bool false)))) (.leaf (.bool false))))):=by kernel_rfl
def c_awakeX:PC P:=PC.of (α:=Unit) 11 [] (fun x=>x) (fun x=>x) (fun _=>rfl)
 (fun _=>none)
 (fun x=>.bool true) (by kernel_rfl) (by
  rintro⟨⟩ hp
  refine fn_of hm (by kernel_rfl) (by kernel_rfl) (T_awakeX ()) trivial ?_
  try dsimp only at hp
  try dsimp only
  have h1:hOk (shownH.1,shownH.2.1,2):=⟨by decide,by decide,by decide⟩
  have h3:sOk (0,3,0,-1,1000,(shownH.1,shownH.2.1,2),[],-1):=⟨h1,by decide⟩
  have h4:(prS (shownH.1,shownH.2.1,2) 10 1000).1=[0,2]:=by decide +kernel
  exact⟨h1,⟨h3,by decide⟩,⟨h3,by decide⟩,fun c1=>⟨⟨h4,by rw[h4]; decide⟩,fun c2=>⟨fun c3=>⟨fun c4=>rfl,fun c4=>absurd c4 (by decide +kernel)⟩,fun c3=>absurd c3 (by decide +kernel)⟩,fun c2=>absurd c2 (by decide +kernel)⟩,fun c1=>absurd c1 (by decide +kernel)⟩)
theorem T_BarrierReplays (nums:List Int) (q:Int) (x1_:Nat) (hx1_:x1_=(Int.toNat (q % IntKind.i64.wrap ((↑(List.length (V_EntriesOf ((),(V_SiteOf ((),nums,(0:Int),())).1,(15:Int),nums,(V_SiteOf ((),nums,(0:Int),())).2,())).1):Int)+1)))) (x2_:Nat) (hx2_:x2_=(Int.toNat (↑(List.length (V_EntriesOf ((),(V_SiteOf ((),nums,(0:Int),())).1,(15:Int),nums,(V_SiteOf ((),nums,(0:Int),())).2,())).1):Int))):fnTree (P:=P) [c_NewRing.gc,c_SiteOf.gc,c_EntriesOf.gc,c_Log.gc,c_Read.gc,c_rSame.gc,c_SameEntries.gc,c_Run.gc,c_Replay.gc,c_Mod.gc,c_awakeX.gc] (lpOf []) Tryz.f6 (encL 0 [.val tIs,.val tI] (nums,q,())) =
 Tree.need (pr_SiteOf ((),nums,(0:Int),())) (.need (pr_EntriesOf ((),(V_SiteOf ((),nums,(0:Int),())).1,(15:Int),nums,(V_SiteOf ((),nums,(0:Int),())).2,())) (.need (sOk (V_SiteOf ((),nums,(0:Int),())).1) (.cond ((logS (V_SiteOf ((),nums,(0:Int),())).1 (V_EntriesOf ((),(V_SiteOf ((),nums,(0:Int),())).1,(15:Int),nums,(V_SiteOf ((),nums,(0:Int),())).2,())).1).2 != (0:Int)) (.leaf (.bool false)) (.cond ((readS (logS (V_SiteOf ((),nums,(0:Int),())).1 (V_EntriesOf ((),(V_SiteOf ((),nums,(0:Int),())).1,(15:Int),nums,(V_SiteOf ((),nums,(0:Int),())).2,())).1).1).2.2 != (0:Int)) (.leaf (.bool false)) (.need (sOk (readS (logS (V_SiteOf ((),nums,(0:Int),())).1 (V_EntriesOf ((),(V_SiteOf ((),nums,(0:Int),())).1,(15:Int),nums,(V_SiteOf ((),nums,(0:Int),())).2,())).1).1).1∧sOk (V_SiteOf ((),nums,(0:Int),())).1) (.cond (!sameB (readS (logS (V_SiteOf ((),nums,(0:Int),())).1 (V_EntriesOf ((),(V_SiteOf ((),nums,(0:Int),())).1,(15:Int),nums,(V_SiteOf ((),nums,(0:Int),())).2,())).1).1).1 (V_SiteOf ((),nums,(0:Int),())).1) (.leaf (.bool false)) (.need (List.length (readS (logS (V_SiteOf ((),nums,(0:Int),())).1 (V_EntriesOf ((),(V_SiteOf ((),nums,(0:Int),())).1,(15:Int),nums,(V_SiteOf ((),nums,(0:Int),())).2,())).1).1).2.1≤(100000:Nat)∧List.length (V_EntriesOf ((),(V_SiteOf ((),nums,(0:Int),())).1,(15:Int),nums,(V_SiteOf ((),nums,(0:Int),())).2,())).1≤(100000:Nat)) (.cond (!decide ((readS (logS (V_SiteOf ((),nums,(0:Int),())).1 (V_EntriesOf ((),(V_SiteOf ((),nums,(0:Int),())).1,(15:Int),nums,(V_SiteOf ((),nums,(0:Int),())).2,())).1).1).2.1=(V_EntriesOf ((),(V_SiteOf ((),nums,(0:Int),())).1,(15:Int),nums,(V_SiteOf ((),nums,(0:Int),())).2,())).1)) (.leaf (.bool false)) (.need (sOk (V_SiteOf ((),nums,(0:Int),())).1) (.need (sOk (runS (V_SiteOf ((),nums,(0:Int),())).1 (V_EntriesOf ((),(V_SiteOf ((),nums,(0:Int),())).1,(15:Int),nums,(V_SiteOf ((),nums,(0:Int),())).2,())).1).1∧sOk (repS (logS (V_SiteOf ((),nums,(0:Int),())).1 (V_EntriesOf ((),(V_SiteOf ((),nums,(0:Int),())).1,(15:Int),nums,(V_SiteOf ((),nums,(0:Int),())).2,())).1).1).1) (.cond (!sameB (runS (V_SiteOf ((),nums,(0:Int),())).1 (V_EntriesOf ((),(V_SiteOf ((),nums,(0:Int),())).1,(15:Int),nums,(V_SiteOf ((),nums,(0:Int),())).2,())).1).1 (repS (logS (V_SiteOf ((),nums,(0:Int),())).1 (V_EntriesOf ((),(V_SiteOf ((),nums,(0:Int),())).1,(15:Int),nums,(V_SiteOf ((),nums,(0:Int),())).2,())).1).1).1) (.leaf (.bool false)) (.cond ((runS (V_SiteOf ((),nums,(0:Int),())).1 (V_EntriesOf ((),(V_SiteOf ((),nums,(0:Int),())).1,(15:Int),nums,(V_SiteOf ((),nums,(0:Int),())).2,())).1).2.1 != (repS (logS (V_SiteOf ((),nums,(0:Int),())).1 (V_EntriesOf ((),(V_SiteOf ((),nums,(0:Int),())).1,(15:Int),nums,(V_SiteOf ((),nums,(0:Int),())).2,())).1).1).2.1) (.leaf (.bool false)) (.cond ((runS (V_SiteOf ((),nums,(0:Int),())).1 (V_EntriesOf ((),(V_SiteOf ((),nums,(0:Int),())).1,(15:Int),nums,(V_SiteOf ((),nums,(0:Int),())).2,())).1).2.2 != (repS (logS (V_SiteOf ((),nums,(0:Int),())).1 (V_EntriesOf ((),(V_SiteOf ((),nums,(0:Int),())).1,(15:Int),nums,(V_SiteOf ((),nums,(0:Int),())).2,())).1).1).2.2) (.leaf (.bool false)) (.need ((0:Int)<IntKind.i64.wrap ((↑(List.length (V_EntriesOf ((),(V_SiteOf ((),nums,(0:Int),())).1,(15:Int),nums,(V_SiteOf ((),nums,(0:Int),())).2,())).1):Int)+1)∧R64 (IntKind.i64.wrap ((↑(List.length (V_EntriesOf ((),(V_SiteOf ((),nums,(0:Int),())).1,(15:Int),nums,(V_SiteOf ((),nums,(0:Int),())).2,())).1):Int)+1))) (.need ((0:Int)≤0∧(0:Int)≤q % IntKind.i64.wrap ((↑(List.length (V_EntriesOf ((),(V_SiteOf ((),nums,(0:Int),())).1,(15:Int),nums,(V_SiteOf ((),nums,(0:Int),())).2,())).1):Int)+1)∧q % IntKind.i64.wrap ((↑(List.length (V_EntriesOf ((),(V_SiteOf ((),nums,(0:Int),())).1,(15:Int),nums,(V_SiteOf ((),nums,(0:Int),())).2,())).1):Int)+1)≤(↑(List.length (V_EntriesOf ((),(V_SiteOf ((),nums,(0:Int),())).1,(15:Int),nums,(V_SiteOf ((),nums,(0:Int),())).2,())).1):Int)) (.need (sOk (V_SiteOf ((),nums,(0:Int),())).1) (.cond (decide ((runS (V_SiteOf ((),nums,(0:Int),())).1 (List.drop (Int.toNat (0:Int)) (List.take x1_ (V_EntriesOf ((),(V_SiteOf ((),nums,(0:Int),())).1,(15:Int),nums,(V_SiteOf ((),nums,(0:Int),())).2,())).1))).2.1 ≥ (0:Int))) (.need (sOk (runS (V_SiteOf ((),nums,(0:Int),())).1 (List.drop (Int.toNat (0:Int)) (List.take x1_ (V_EntriesOf ((),(V_SiteOf ((),nums,(0:Int),())).1,(15:Int),nums,(V_SiteOf ((),nums,(0:Int),())).2,())).1))).1∧sOk (runS (V_SiteOf ((),nums,(0:Int),())).1 (V_EntriesOf ((),(V_SiteOf ((),nums,(0:Int),())).1,(15:Int),nums,(V_SiteOf ((),nums,(0:Int),())).2,())).1).1) (.cond (sameB (runS (V_SiteOf ((),nums,(0:Int),())).1 (List.drop (Int.toNat (0:Int)) (List.take x1_ (V_EntriesOf ((),(V_SiteOf ((),nums,(0:Int),())).1,(15:Int),nums,(V_SiteOf ((),nums,(0:Int),())).2,())).1))).1 (runS (V_SiteOf ((),nums,(0:Int),())).1 (V_EntriesOf ((),(V_SiteOf ((),nums,(0:Int),())).1,(15:Int),nums,(V_SiteOf ((),nums,(0:Int),())).2,())).1).1) (.cond ((runS (V_SiteOf ((),nums,(0:Int),())).1 (List.drop (Int.toNat (0:Int)) (List.take x1_ (V_EntriesOf ((),(V_SiteOf ((),nums,(0:Int),())).1,(15:Int),nums,(V_SiteOf ((),nums,(0:Int),())).2,())).1))).2.1==(runS (V_SiteOf ((),nums,(0:Int),())).1 (V_EntriesOf ((),(V_SiteOf ((),nums,(0:Int),())).1,(15:Int),nums,(V_SiteOf ((),nums,(0:Int),())).2,())).1).2.1) (.cond ((runS (V_SiteOf ((),nums,(0:Int),())).1 (List.drop (Int.toNat (0:Int)) (List.take x1_ (V_EntriesOf ((),(V_SiteOf ((),nums,(0:Int),())).1,(15:Int),nums,(V_SiteOf ((),nums,(0:Int),())).2,())).1))).2.2==(runS (V_SiteOf ((),nums,(0:Int),())).1 (V_EntriesOf ((),(V_SiteOf ((),nums,(0:Int),())).1,(15:Int),nums,(V_SiteOf ((),nums,(0:Int),())).2,())).1).2.2) (.leaf (.bool true)) (.leaf (.bool false))) (.leaf (.bool false))) (.leaf (.bool false)))) (.need ((0:Int)≤q % IntKind.i64.wrap ((↑(List.length (V_EntriesOf ((),(V_SiteOf ((),nums,(0:Int),())).1,(15:Int),nums,(V_SiteOf ((),nums,(0:Int),())).2,())).1):Int)+1)∧q % IntKind.i64.wrap ((↑(List.length (V_EntriesOf ((),(V_SiteOf ((),nums,(0:Int),())).1,(15:Int),nums,(V_SiteOf ((),nums,(0:Int),())).2,())).1):Int)+1)≤(↑(List.length (V_EntriesOf ((),(V_SiteOf ((),nums,(0:Int),())).1,(15:Int),nums,(V_SiteOf ((),nums,(0:Int),())).2,())).1):Int)∧(↑(List.length (V_EntriesOf ((),(V_SiteOf ((),nums,(0:Int),())).1,(15:Int),nums,(V_SiteOf ((),nums,(0:Int),())).2,())).1):Int)≤(↑(List.length (V_EntriesOf ((),(V_SiteOf ((),nums,(0:Int),())).1,(15:Int),nums,(V_SiteOf ((),nums,(0:Int),())).2,())).1):Int)) (.need (sOk (runS (V_SiteOf ((),nums,(0:Int),())).1 (List.drop (Int.toNat (0:Int)) (List.take x1_ (V_EntriesOf ((),(V_SiteOf ((),nums,(0:Int),())).1,(15:Int),nums,(V_SiteOf ((),nums,(0:Int),())).2,())).1))).1) (.cond (decide ((runS (runS (V_SiteOf ((),nums,(0:Int),())).1 (List.drop (Int.toNat (0:Int)) (List.take x1_ (V_EntriesOf ((),(V_SiteOf ((),nums,(0:Int),())).1,(15:Int),nums,(V_SiteOf ((),nums,(0:Int),())).2,())).1))).1 (List.drop x1_ (List.take x2_ (V_EntriesOf ((),(V_SiteOf ((),nums,(0:Int),())).1,(15:Int),nums,(V_SiteOf ((),nums,(0:Int),())).2,())).1))).2.1 ≥ (0:Int))) (.cond ((runS (V_SiteOf ((),nums,(0:Int),())).1 (List.drop (Int.toNat (0:Int)) (List.take x1_ (V_EntriesOf ((),(V_SiteOf ((),nums,(0:Int),())).1,(15:Int),nums,(V_SiteOf ((),nums,(0:Int),())).2,())).1))).2.2==0) (.need (sOk (runS (runS (V_SiteOf ((),nums,(0:Int),())).1 (List.drop (Int.toNat (0:Int)) (List.take x1_ (V_EntriesOf ((),(V_SiteOf ((),nums,(0:Int),())).1,(15:Int),nums,(V_SiteOf ((),nums,(0:Int),())).2,())).1))).1 (List.drop x1_ (List.take x2_ (V_EntriesOf ((),(V_SiteOf ((),nums,(0:Int),())).1,(15:Int),nums,(V_SiteOf ((),nums,(0:Int),())).2,())).1))).1∧sOk (runS (V_SiteOf ((),nums,(0:Int),())).1 (V_EntriesOf ((),(V_SiteOf ((),nums,(0:Int),())).1,(15:Int),nums,(V_SiteOf ((),nums,(0:Int),())).2,())).1).1) (.cond (sameB (runS (runS (V_SiteOf ((),nums,(0:Int),())).1 (List.drop (Int.toNat (0:Int)) (List.take x1_ (V_EntriesOf ((),(V_SiteOf ((),nums,(0:Int),())).1,(15:Int),nums,(V_SiteOf ((),nums,(0:Int),())).2,())).1))).1 (List.drop x1_ (List.take x2_ (V_EntriesOf ((),(V_SiteOf ((),nums,(0:Int),())).1,(15:Int),nums,(V_SiteOf ((),nums,(0:Int),())).2,())).1))).1 (runS (V_SiteOf ((),nums,(0:Int),())).1 (V_EntriesOf ((),(V_SiteOf ((),nums,(0:Int),())).1,(15:Int),nums,(V_SiteOf ((),nums,(0:Int),())).2,())).1).1) (.cond (IntKind.i64.wrap ((runS (runS (V_SiteOf ((),nums,(0:Int),())).1 (List.drop (Int.toNat (0:Int)) (List.take x1_ (V_EntriesOf ((),(V_SiteOf ((),nums,(0:Int),())).1,(15:Int),nums,(V_SiteOf ((),nums,(0:Int),())).2,())).1))).1 (List.drop x1_ (List.take x2_ (V_EntriesOf ((),(V_SiteOf ((),nums,(0:Int),())).1,(15:Int),nums,(V_SiteOf ((),nums,(0:Int),())).2,())).1))).2.1+q % IntKind.i64.wrap ((↑(List.length (V_EntriesOf ((),(V_SiteOf ((),nums,(0:Int),())).1,(15:Int),nums,(V_SiteOf ((),nums,(0:Int),())).2,())).1):Int)+1))==(runS (V_SiteOf ((),nums,(0:Int),())).1 (V_EntriesOf ((),(V_SiteOf ((),nums,(0:Int),())).1,(15:Int),nums,(V_SiteOf ((),nums,(0:Int),())).2,())).1).2.1) (.cond ((runS (runS (V_SiteOf ((),nums,(0:Int),())).1 (List.drop (Int.toNat (0:Int)) (List.take x1_ (V_EntriesOf ((),(V_SiteOf ((),nums,(0:Int),())).1,(15:Int),nums,(V_SiteOf ((),nums,(0:Int),())).2,())).1))).1 (List.drop x1_ (List.take x2_ (V_EntriesOf ((),(V_SiteOf ((),nums,(0:Int),())).1,(15:Int),nums,(V_SiteOf ((),nums,(0:Int),())).2,())).1))).2.2==(runS (V_SiteOf ((),nums,(0:Int),())).1 (V_EntriesOf ((),(V_SiteOf ((),nums,(0:Int),())).1,(15:Int),nums,(V_SiteOf ((),nums,(0:Int),())).2,())).1).2.2) (.leaf (.bool true)) (.leaf (.bool false))) (.leaf (.bool false))) (.leaf (.bool false)))) (.leaf (.bool false))) (.cond ((runS (V_SiteOf ((),nums,(0:Int),())).1 (List.drop (Int.toNat (0:Int)) (List.take x1_ (V_EntriesOf ((),(V_SiteOf ((),nums,(0:Int),())).1,(15:Int),nums,(V_SiteOf ((),nums,(0:Int),())).2,())).1))).2.2==0) (.need (sOk (runS (runS (V_SiteOf ((),nums,(0:Int),())).1 (List.drop (Int.toNat (0:Int)) (List.take x1_ (V_EntriesOf ((),(V_SiteOf ((),nums,(0:Int),())).1,(15:Int),nums,(V_SiteOf ((),nums,(0:Int),())).2,())).1))).1 (List.drop x1_ (List.take x2_ (V_EntriesOf ((),(V_SiteOf ((),nums,(0:Int),())).1,(15:Int),nums,(V_SiteOf ((),nums,(0:Int),())).2,())).1))).1∧sOk (runS (V_SiteOf ((),nums,(0:Int),())).1 (V_EntriesOf ((),(V_SiteOf ((),nums,(0:Int),())).1,(15:Int),nums,(V_SiteOf ((),nums,(0:Int),())).2,())).1).1) (.cond (sameB (runS (runS (V_SiteOf ((),nums,(0:Int),())).1 (List.drop (Int.toNat (0:Int)) (List.take x1_ (V_EntriesOf ((),(V_SiteOf ((),nums,(0:Int),())).1,(15:Int),nums,(V_SiteOf ((),nums,(0:Int),())).2,())).1))).1 (List.drop x1_ (List.take x2_ (V_EntriesOf ((),(V_SiteOf ((),nums,(0:Int),())).1,(15:Int),nums,(V_SiteOf ((),nums,(0:Int),())).2,())).1))).1 (runS (V_SiteOf ((),nums,(0:Int),())).1 (V_EntriesOf ((),(V_SiteOf ((),nums,(0:Int),())).1,(15:Int),nums,(V_SiteOf ((),nums,(0:Int),())).2,())).1).1) (.cond ((runS (runS (V_SiteOf ((),nums,(0:Int),())).1 (List.drop (Int.toNat (0:Int)) (List.take x1_ (V_EntriesOf ((),(V_SiteOf ((),nums,(0:Int),())).1,(15:Int),nums,(V_SiteOf ((),nums,(0:Int),())).2,())).1))).1 (List.drop x1_ (List.take x2_ (V_EntriesOf ((),(V_SiteOf ((),nums,(0:Int),())).1,(15:Int),nums,(V_SiteOf ((),nums,(0:Int),())).2,())).1))).2.1==(runS (V_SiteOf ((),nums,(0:Int),())).1 (V_EntriesOf ((),(V_SiteOf ((),nums,(0:Int),())).1,(15:Int),nums,(V_SiteOf ((),nums,(0:Int),())).2,())).1).2.1) (.cond ((runS (runS (V_SiteOf ((),nums,(0:Int),())).1 (List.drop (Int.toNat (0:Int)) (List.take x1_ (V_EntriesOf ((),(V_SiteOf ((),nums,(0:Int),())).1,(15:Int),nums,(V_SiteOf ((),nums,(0:Int),())).2,())).1))).1 (List.drop x1_ (List.take x2_ (V_EntriesOf ((),(V_SiteOf ((),nums,(0:Int),())).1,(15:Int),nums,(V_SiteOf ((),nums,(0:Int),())).2,())).1))).2.2==(runS (V_SiteOf ((),nums,(0:Int),())).1 (V_EntriesOf ((),(V_SiteOf ((),nums,(0:Int),())).1,(15:Int),nums,(V_SiteOf ((),nums,(0:Int),())).2,())).1).2.2) (.leaf (.bool true)) (.leaf (.bool false))) (.leaf (.bool false))) (.leaf (.bool false)))) (.leaf (.bool false))))))))))))))))))))))):=by
 subst hx2_; subst hx1_; kernel_rfl
def c_BarrierReplays:PC P:=PC.of (α:=List Int×Int×Unit) 6 [.val tIs,.val tI] (fun x=>x) (fun x=>x) (fun _=>rfl)
 (fun _=>none)
 (fun x=>.bool true) (by kernel_rfl) (by
  rintro⟨nums,q,⟨⟩⟩ hp
  refine fn_of hm (by kernel_rfl) (by kernel_rfl) (T_BarrierReplays nums q _ rfl _ rfl) trivial ?_
  try dsimp only at hp
  try dsimp only
  have hpr:pr_SiteOf ((),nums,0,()):=⟨by decide,by decide⟩
  have hZ:=S_SiteOf _ hpr
  refine⟨hpr,?_⟩
  generalize V_SiteOf ((),nums,0,())=sk at *
  obtain⟨z0,z1,z2⟩:SiteV sk.1∧0≤sk.2∧sk.2≤0+1000:=hZ
  have hpe:pr_EntriesOf ((),sk.1,15,nums,sk.2,()):=⟨z0,by decide,by decide,z1,by omega⟩
  have hE:=S_EntriesOf _ hpe
  refine⟨hpe,?_⟩
  generalize V_EntriesOf ((),sk.1,15,nums,sk.2,())=ek at *
  have hl:(ek.1.length:Int)≤15:=hE.1
  have hN:∀ e∈ek.1,okN e:=hE.2.2.2
  clear hE hpe hpr
  generalize ek.1=L at *
  generalize sk.1=S at *
  have hs:=z0.sOk
  have hg:=read_log (log_ok z0.ok (by omega) hN) z0.ok
  have f1:(logS S L).2=0:=by rw[hg.1]
  have f2:=hg.2
  have f3:repS (logS S L).1=runS S L:=by
   unfold repS
   rw[f2]
   exact if_neg (fun k=>k rfl)
  clear hg
  rw[f3,f2,f1,W_id (n:=(L.length:Int)+1) (by omega) (by omega)]
  have ha0:=Int.emod_nonneg q (show (L.length:Int)+1≠0 by omega)
  have ha1:=Int.emod_lt_of_pos q (show 0<(L.length:Int)+1 by omega)
  generalize q % ((L.length:Int)+1)=a at *
  have hpt:=part_ok z0.ok (l:=L) (by omega) a.toNat (by omega)
  rw[show List.drop (Int.toNat 0) (List.take a.toNat L)=List.take a.toNat L from rfl,show List.take (Int.toNat (L.length:Int)) L=L from List.take_of_length_le (by omega)]
  have s1:=runS_sOk S L
  have s2:=runS_sOk S (List.take a.toNat L)
  have s3:=runS_sOk (runS S (List.take a.toNat L)).1 (List.drop a.toNat L)
  generalize runS (runS S (List.take a.toNat L)).1 (List.drop a.toNat L)=Y at *
  generalize runS S (List.take a.toNat L)=X at *
  generalize runS S L=R at *
  have e1:∀ z:Int,(z != z)=true→False:=fun z h=>bneT h rfl
  have e2:∀ z:Site,(!sameB z z)=true→False:=fun z h=>by rw[sameB_iff.2 rfl] at h; cases h
  have e3:∀ z:List Entry,(!decide (z=z))=true→False:=fun z h=>by rw[decide_eq_true rfl] at h; cases h
  have e4:∀ z:Site,sameB z z=false→False:=fun z h=>by rw[sameB_iff.2 rfl] at h; cases h
  have e5:∀ z:Int,(z==z)=false→False:=fun z h=>by rw[beq_self_eq_true] at h; cases h
  refine⟨hs,⟨fun c=>(e1 _ c).elim,fun _=>⟨fun c=>(e1 _ c).elim,fun _=>⟨⟨hs,hs⟩,⟨fun c=>(e2 _ c).elim,fun _=>⟨⟨by show L.length≤100000; omega,by omega⟩,⟨fun c=>(e3 _ c).elim,fun _=>⟨hs,⟨⟨s1,s1⟩,⟨fun c=>(e2 _ c).elim,fun _=>⟨fun c=>(e1 _ c).elim,fun _=>⟨fun c=>(e1 _ c).elim,fun _=>⟨⟨by omega,?_⟩,⟨⟨by decide,by omega,by omega⟩,⟨hs,⟨fun c8=>?_,fun c8=>?_⟩⟩⟩⟩⟩⟩⟩⟩⟩⟩⟩⟩⟩⟩⟩⟩
  ·exact⟨by omega,by omega⟩
  ·have c8:=dcT c8
   obtain rfl:=hpt.1 c8
   exact⟨⟨s1,s1⟩,⟨fun _=>⟨fun _=>⟨fun _=>rfl,fun c=>(e5 _ c).elim⟩,fun c=>(e5 _ c).elim⟩,fun c=>(e4 _ c).elim⟩⟩
  ·have c8:=dcF c8
   obtain⟨h1,h2,h3⟩:=hpt.2 c8
   rw[h1]
   refine⟨⟨by omega,by omega,by omega⟩,⟨s2,⟨fun c12=>?_,fun c12=>?_⟩⟩⟩
   ·have c12:=dcT c12
    obtain⟨rfl,h4⟩:=h2 c12
    dsimp only
    rw[W_id (n:=Y.2.1+a) (by omega) (by omega),show ((a.toNat:Nat):Int)=a by omega]
    exact⟨fun _=>⟨⟨s3,s3⟩,⟨fun _=>⟨fun _=>⟨fun _=>rfl,fun c=>(e5 _ c).elim⟩,fun c=>(e5 _ c).elim⟩,fun c=>(e4 _ c).elim⟩⟩,fun c=>(e5 _ c).elim⟩
   ·have c12:=dcF c12
    obtain rfl:=h3 c12
    exact⟨fun _=>⟨⟨s3,s3⟩,⟨fun _=>⟨fun _=>⟨fun _=>rfl,fun c=>(e5 _ c).elim⟩,fun c=>(e5 _ c).elim⟩,fun c=>(e4 _ c).elim⟩⟩,fun c=>(e5 _ c).elim⟩)
end
end Go.MB
