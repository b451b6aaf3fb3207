/- Logs: rows of a log, as the program reads them. (Printed by tools/mkE.py.) -/
import Derived.Test.YtdoobpeacbcohaaGreatMnA
namespace Go.MB
open Go Go.Sx Go.Proofs
set_option linter.unusedVariables false
set_option linter.unusedSimpArgs false
noncomputable section
def elR (r:Rd):E4 × Rd:=(((nextS r).1,(nextS (nextS r).2).1,(nextS (nextS (nextS r).2).2).1,(nextS (nextS (nextS (nextS r).2).2).2).1),(nextS (nextS (nextS (nextS r).2).2).2).2)
def enR (r:Rd):Entry × Rd:=(((nextS r).1,(nextS (nextS r).2).1,(nextS (nextS (nextS r).2).2).1,(nextS (nextS (nextS (nextS r).2).2).2).1,(nextS (nextS (nextS (nextS (nextS r).2).2).2).2).1,(nextS (nextS (nextS (nextS (nextS (nextS r).2).2).2).2).2).1),(nextS (nextS (nextS (nextS (nextS (nextS r).2).2).2).2).2).2)
def pmR (r:Rd):Pm × Rd:=(((nextS r).1,(nextS (nextS r).2).1,(nextS (nextS (nextS r).2).2).1,(nextS (nextS (nextS (nextS r).2).2).2).1 == 1),((nextS (nextS (nextS (nextS r).2).2).2).2.1,(nextS (nextS (nextS (nextS r).2).2).2).2.2 || ((nextS (nextS (nextS (nextS r).2).2).2).1 != 0 && (nextS (nextS (nextS (nextS r).2).2).2).1 != 1)))
def rowsS {α:Type} (rd:Rd → α × Rd):Nat → Rd → List α × Rd
  | 0,r => ([],r)
  | n + 1,r => ((rd r).1 :: (rowsS rd n (rd r).2).1,(rowsS rd n (rd r).2).2)
def rwS {α:Type} (rd:Rd → α × Rd) (most:Int) (r:Rd):List α × Rd:=if wi (nextS r).1 0 most = false then ([],((nextS r).2.1,true)) else rowsS rd (nextS r).1.toNat (nextS r).2
def rowsA {α:Type} (rd:Rd → α × Rd) (acc:List α) (n:Nat) (r:Rd):List α × Rd:=(acc ++ (rowsS rd n r).1,(rowsS rd n r).2)
theorem rowsA_zero {α:Type} (rd:Rd → α × Rd) (acc:List α) (r:Rd):rowsA rd acc 0 r = (acc,r):=by
  unfold rowsA
  rw [rowsS,List.append_nil]
theorem rowsA_step {α:Type} (rd:Rd → α × Rd) (acc:List α) (n:Nat) (r:Rd):rowsA rd acc (n + 1) r = rowsA rd (acc ++ [(rd r).1]) n (rd r).2:=by
  unfold rowsA
  rw [rowsS,List.append_assoc]
  rfl
def rowsR (most:Int) (r:Rd):List Int × Rd:=rwS nextS most r
def L_rdEl:Lay:={ slots:=[(0,.ptr 1 0)],boxes:=[(1,[.ptr 2 0]),(2,[.val .str,.val .bool])] }
theorem T_rdEl (s:ByteArray) (bad:Bool):mTree (P:=P) [c_next.gc,c_number.gc] (lpOf []) Tryz.f62 L_rdEl true ((),(),s,bad,()) =
  Tree.leaf { res:=SV.agg [SV.int IntKind.i64 (nextS (s,bad)).fst,SV.int IntKind.i64 (nextS (nextS (s,bad)).snd).fst,SV.int IntKind.i64 (nextS (nextS (nextS (s,bad)).snd).snd).fst,SV.int IntKind.i64 (nextS (nextS (nextS (nextS (s,bad)).snd).snd).snd).fst],boxes:=[[SV.ptr (2:Nat) (0:Nat)],[SV.str (nextS (nextS (nextS (nextS (s,bad)).snd).snd).snd).snd.fst,SV.bool (nextS (nextS (nextS (nextS (s,bad)).snd).snd).snd).snd.snd]] }:=by kernel_rfl
def c_rdEl:MC P:=MC.of (α:=Unit × Unit × ByteArray × Bool × Unit) 62 L_rdEl (fun x => x) (fun x => x) (fun _ => rfl)
  (fun _ => none)
  (fun (_,_,s,bad,_) => ⟨.agg [.int .i64 (elR (s,bad)).1.1,.int .i64 (elR (s,bad)).1.2.1,.int .i64 (elR (s,bad)).1.2.2.1,.int .i64 (elR (s,bad)).1.2.2.2],[[.ptr 2 0],[.str (elR (s,bad)).2.1,.bool (elR (s,bad)).2.2]],[]⟩) (by kernel_rfl) (by kernel_rfl) (by kernel_rfl) (by
    rintro ⟨⟨⟩,⟨⟩,s,bad,⟨⟩⟩ hp
    refine m_of hm (own:=true) (by kernel_rfl) (by kernel_rfl) (by kernel_rfl) (T_rdEl s bad) trivial ?_
    unfold elR
    dsimp only
    generalize nextS (s,bad) = z1
    obtain ⟨d1,s1,b1⟩:=z1
    dsimp only
    generalize nextS (s1,b1) = z2
    obtain ⟨d2,s2,b2⟩:=z2
    dsimp only
    generalize nextS (s2,b2) = z3
    obtain ⟨d3,s3,b3⟩:=z3
    dsimp only
    generalize nextS (s3,b3) = z4
    obtain ⟨d4,s4,b4⟩:=z4
    dsimp only
    exact rfl)
def L_rwElL:Lay:={ slots:=[(2,.clo 62 [(1,0)]),(8,.row 26 tEl),(18,.val tI),(19,.val tI)],boxes:=[(1,[.ptr 2 0]),(2,[.val .str,.val .bool])] }
def L_rwElL_0:Lay:={ slots:=[(8,.row 26 tEl)],boxes:=[(1,[.ptr 2 0]),(2,[.val .str,.val .bool])] }
def X_rwElL:Exit → St → Option Lay
  | .exit 0,_ => some L_rwElL_0
  | _,_ => none
abbrev C_rwElL:Code:=loopC (bodyOf Tryz.f61) 0
theorem B_rwElL (acc:List E4) (n i:Int) (s:ByteArray) (bad:Bool):loopBodyA (P:=P) [c_rdEl.gc] (lpOf []) [] 28 (usd noU [1,2]) (inner C_rwElL) L_rwElL X_rwElL (α:=Unit × List E4 × Int × Int × Unit × ByteArray × Bool × Unit) (fun x => x) (fun x => x) ((),acc,n,i,(),s,bad,()) =
  Tree.cond (decide (i < n)) (.need ((List.length acc + List.length [(elR (s,bad)).fst]) * (32:Nat) ≤ (140737488355328:Nat)) (.leaf (Sum.inl ((),acc ++ [(elR (s,bad)).fst],n,IntKind.i64.wrap (i + (1:Int)),(),(elR (s,bad)).snd.fst,(elR (s,bad)).snd.snd,())))) (.leaf (Sum.inr (Exit.exit (0:Nat),Lay.st L_rwElL_0 (usd noU [(1:Nat),(2:Nat)]) (acc,(),s,bad,())))):=by kernel_rfl
def inv_rwElL:Unit × List E4 × Int × Int × Unit × ByteArray × Bool × Unit → Prop:=fun (_,acc,n,i,_,s,bad,_) => 0 ≤ i ∧ i ≤ n ∧ n ≤ 1000 ∧ (acc.length:Int) ≤ i
def O_rwElL:Unit × List E4 × Int × Int × Unit × ByteArray × Bool × Unit → Tree (Exit × St):=fun (_,acc,n,i,_,s,bad,_) => .leaf (.exit 0,L_rwElL_0.st (usd noU [1,2]) ((rowsA elR acc (n - i).toNat (s,bad)).1,(),(rowsA elR acc (n - i).toNat (s,bad)).2.1,(rowsA elR acc (n - i).toNat (s,bad)).2.2,()))
def R_rwElL:LRun:=runOf 28 L_rwElL (fun x => x) (inv_rwElL) (O_rwElL)
theorem K_rwElL:LoopOk P [] 28 none (usd noU [1,2]) C_rwElL (R_rwElL):=by
  refine loop_of hm (cx:=[c_rdEl.gc]) [] (xl:=X_rwElL) (α:=Unit × List E4 × Int × Int × Unit × ByteArray × Bool × Unit) (fun x => x) (fun (_,acc,n,i,_,s,bad,_) => (n - i).toNat) (fun _ => rfl) (by kernel_rfl) (by kernel_rfl) ?_ (by kernel_rfl) trivial ?_
  · intro e S L' h
    unfold X_rwElL at h
    split at h <;> first | (cases h; done) | (cases h; kernel_rfl) | (rcases bif_some h with h | h <;> cases h <;> kernel_rfl)
  · rintro ⟨⟨⟩,acc,n,i,⟨⟩,s,bad,⟨⟩⟩ hinv Q hQ
    refine hold_of_eq (B_rwElL acc n i s bad) ?_
    obtain ⟨h0,h1,h2,h3⟩:=hinv
    have hQ' : Q (.exit 0,L_rwElL_0.st (usd noU [1,2]) ((rowsA elR acc (n - i).toNat (s,bad)).1,(),(rowsA elR acc (n - i).toNat (s,bad)).2.1,(rowsA elR acc (n - i).toNat (s,bad)).2.2,())):=hQ
    rw [W_id (n:=i + 1) (by omega) (by omega)]
    refine ⟨fun c1 => ?_,fun c1 => ?_⟩
    · have c1:=of_decide_eq_true c1
      rw [show (n - i).toNat = (n - (i + 1)).toNat + 1 by omega,rowsA_step] at hQ'
      generalize elR (s,bad) = z at *
      obtain ⟨⟨d0,d1,d2,d3⟩,s1,b1⟩:=z
      dsimp only at *
      exact ⟨by simp only [List.length_cons,List.length_nil]; omega,⟨⟨by omega,by omega,h2,by simp only [List.length_append,List.length_cons,List.length_nil]; omega⟩,by show (n - (i + 1)).toNat < (n - i).toNat; omega⟩,hQ'⟩
    · have c1:=of_decide_eq_false c1
      rw [show (n - i).toNat = 0 by omega,rowsA_zero] at hQ'
      exact hQ'
def L_rwEl:Lay:={ slots:=[(0,.ptr 2 0),(1,.val tI),(2,.clo 62 [(1,0)])],boxes:=[(1,[.ptr 2 0]),(2,[.val .str,.val .bool])] }
theorem T_rwEl (m:Int) (s:ByteArray) (bad:Bool):mTree (P:=P) [c_next.gc,c_within.gc] (lpOf [(0,R_rwElL)]) Tryz.f61 L_rwEl false ((),m,(),(),s,bad,()) =
  Tree.cond (!wi (nextS (s,bad)).fst (0:Int) m) (.leaf { res:=SV.nils,boxes:=[[SV.ptr (2:Nat) (0:Nat)],[SV.str (nextS (s,bad)).snd.fst,SV.bool true]] }) (.need (inv_rwElL ((),[],(nextS (s,bad)).fst,(0:Int),(),(nextS (s,bad)).snd.fst,(nextS (s,bad)).snd.snd,())) (.leaf { res:=SV.sl tEl (rowsA elR [] (Int.toNat ((nextS (s,bad)).fst - (0:Int))) (nextS (s,bad)).snd).fst,boxes:=[[SV.ptr (2:Nat) (0:Nat)],[SV.str (rowsA elR [] (Int.toNat ((nextS (s,bad)).fst - (0:Int))) (nextS (s,bad)).snd).snd.fst,SV.bool (rowsA elR [] (Int.toNat ((nextS (s,bad)).fst - (0:Int))) (nextS (s,bad)).snd).snd.snd]] })):=by kernel_rfl
def c_rwEl:MC P:=MC.of (α:=Unit × Int × Unit × Unit × ByteArray × Bool × Unit) 61 L_rwEl (fun x => x) (fun x => x) (fun _ => rfl)
  (fun (_,m,_,_,s,bad,_) => some (m ≤ 1000))
  (fun (_,m,_,_,s,bad,_) => ⟨.sl tEl (rwS elR m (s,bad)).1,[[.ptr 2 0],[.str (rwS elR m (s,bad)).2.1,.bool (rwS elR m (s,bad)).2.2]],[]⟩) (by kernel_rfl) (by kernel_rfl) (by kernel_rfl) (by
    rintro ⟨⟨⟩,m,⟨⟩,⟨⟩,s,bad,⟨⟩⟩ hp
    refine m_le hm (own:=false) (by kernel_rfl) (by kernel_rfl) (by kernel_rfl) (T_rwEl m s bad) ⟨K_rwElL,trivial⟩ ?_
    have hp' : m ≤ 1000:=hp
    unfold rwS
    dsimp only
    generalize nextS (s,bad) = z at *
    obtain ⟨d,s1,b1⟩:=z
    dsimp only at *
    refine ⟨fun c1 => ?_,fun c1 => ⟨?_,?_⟩⟩
    · have c1:wi d 0 m = false:=by simpa using c1
      rw [if_pos c1]
      exact ⟨rfl,rfl,rfl⟩
    · have c1:wi d 0 m = true:=by simpa using c1
      obtain ⟨d0,d1⟩:=wi_iff.1 c1
      exact ⟨by decide,d0,by omega,by decide⟩
    · have c1:wi d 0 m = true:=by simpa using c1
      rw [if_neg (by rw [c1]; decide),Int.sub_zero]
      have e:rowsA elR [] d.toNat (s1,b1) = rowsS elR d.toNat (s1,b1):=by unfold rowsA; rw [List.nil_append]
      rw [e]
      exact ⟨rfl,rfl,rfl⟩)
def L_rwIL:Lay:={ slots:=[(2,.clo (4294967296 + 60) [(1,0)]),(8,.row 3 tI),(18,.val tI),(19,.val tI)],boxes:=[(1,[.val .str,.val .bool])] }
def L_rwIL_0:Lay:={ slots:=[(8,.row 3 tI)],boxes:=[(1,[.val .str,.val .bool])] }
def X_rwIL:Exit → St → Option Lay
  | .exit 0,_ => some L_rwIL_0
  | _,_ => none
abbrev C_rwIL:Code:=loopC (bodyOf Tryz.f65) 0
theorem B_rwIL (acc:List Int) (n i:Int) (s:ByteArray) (bad:Bool):loopBodyA (P:=P) [c_number.gc] (lpOf []) [] 28 (usd noU [1]) (inner C_rwIL) L_rwIL X_rwIL (α:=Unit × List Int × Int × Int × ByteArray × Bool × Unit) (fun x => x) (fun x => x) ((),acc,n,i,s,bad,()) =
  Tree.cond (decide (i < n)) (.need ((List.length acc + List.length [(nextS (s,bad)).fst]) * (8:Nat) ≤ (140737488355328:Nat)) (.leaf (Sum.inl ((),acc ++ [(nextS (s,bad)).fst],n,IntKind.i64.wrap (i + (1:Int)),(nextS (s,bad)).snd.fst,(nextS (s,bad)).snd.snd,())))) (.leaf (Sum.inr (Exit.exit (0:Nat),Lay.st L_rwIL_0 (usd noU [(1:Nat)]) (acc,s,bad,())))):=by kernel_rfl
def inv_rwIL:Unit × List Int × Int × Int × ByteArray × Bool × Unit → Prop:=fun (_,acc,n,i,s,bad,_) => 0 ≤ i ∧ i ≤ n ∧ n ≤ 1000 ∧ (acc.length:Int) ≤ i
def O_rwIL:Unit × List Int × Int × Int × ByteArray × Bool × Unit → Tree (Exit × St):=fun (_,acc,n,i,s,bad,_) => .leaf (.exit 0,L_rwIL_0.st (usd noU [1]) ((rowsA nextS acc (n - i).toNat (s,bad)).1,(rowsA nextS acc (n - i).toNat (s,bad)).2.1,(rowsA nextS acc (n - i).toNat (s,bad)).2.2,()))
def R_rwIL:LRun:=runOf 28 L_rwIL (fun x => x) (inv_rwIL) (O_rwIL)
theorem K_rwIL:LoopOk P [] 28 none (usd noU [1]) C_rwIL (R_rwIL):=by
  refine loop_of hm (cx:=[c_number.gc]) [] (xl:=X_rwIL) (α:=Unit × List Int × Int × Int × ByteArray × Bool × Unit) (fun x => x) (fun (_,acc,n,i,s,bad,_) => (n - i).toNat) (fun _ => rfl) (by kernel_rfl) (by kernel_rfl) ?_ (by kernel_rfl) trivial ?_
  · intro e S L' h
    unfold X_rwIL at h
    split at h <;> first | (cases h; done) | (cases h; kernel_rfl) | (rcases bif_some h with h | h <;> cases h <;> kernel_rfl)
  · rintro ⟨⟨⟩,acc,n,i,s,bad,⟨⟩⟩ hinv Q hQ
    refine hold_of_eq (B_rwIL acc n i s bad) ?_
    obtain ⟨h0,h1,h2,h3⟩:=hinv
    have hQ' : Q (.exit 0,L_rwIL_0.st (usd noU [1]) ((rowsA nextS acc (n - i).toNat (s,bad)).1,(rowsA nextS acc (n - i).toNat (s,bad)).2.1,(rowsA nextS acc (n - i).toNat (s,bad)).2.2,())):=hQ
    rw [W_id (n:=i + 1) (by omega) (by omega)]
    refine ⟨fun c1 => ?_,fun c1 => ?_⟩
    · have c1:=of_decide_eq_true c1
      rw [show (n - i).toNat = (n - (i + 1)).toNat + 1 by omega,rowsA_step] at hQ'
      generalize nextS (s,bad) = z at *
      obtain ⟨d0,s1,b1⟩:=z
      dsimp only at *
      exact ⟨by simp only [List.length_cons,List.length_nil]; omega,⟨⟨by omega,by omega,h2,by simp only [List.length_append,List.length_cons,List.length_nil]; omega⟩,by show (n - (i + 1)).toNat < (n - i).toNat; omega⟩,hQ'⟩
    · have c1:=of_decide_eq_false c1
      rw [show (n - i).toNat = 0 by omega,rowsA_zero] at hQ'
      exact hQ'
def L_rwI:Lay:={ slots:=[(0,.ptr 1 0),(1,.val tI),(2,.clo (4294967296 + 60) [(1,0)])],boxes:=[(1,[.val .str,.val .bool])] }
theorem T_rwI (m:Int) (s:ByteArray) (bad:Bool):mTree (P:=P) [c_next.gc,c_within.gc] (lpOf [(0,R_rwIL)]) Tryz.f65 L_rwI false ((),m,(),s,bad,()) =
  Tree.cond (!wi (nextS (s,bad)).fst (0:Int) m) (.leaf { res:=SV.nils,boxes:=[[SV.str (nextS (s,bad)).snd.fst,SV.bool true]] }) (.need (inv_rwIL ((),[],(nextS (s,bad)).fst,(0:Int),(nextS (s,bad)).snd.fst,(nextS (s,bad)).snd.snd,())) (.leaf { res:=SV.sl tI (rowsA nextS [] (Int.toNat ((nextS (s,bad)).fst - (0:Int))) (nextS (s,bad)).snd).fst,boxes:=[[SV.str (rowsA nextS [] (Int.toNat ((nextS (s,bad)).fst - (0:Int))) (nextS (s,bad)).snd).snd.fst,SV.bool (rowsA nextS [] (Int.toNat ((nextS (s,bad)).fst - (0:Int))) (nextS (s,bad)).snd).snd.snd]] })):=by kernel_rfl
def c_rwI:MC P:=MC.of (α:=Unit × Int × Unit × ByteArray × Bool × Unit) 65 L_rwI (fun x => x) (fun x => x) (fun _ => rfl)
  (fun (_,m,_,s,bad,_) => some (m ≤ 1000))
  (fun (_,m,_,s,bad,_) => ⟨.sl tI (rwS nextS m (s,bad)).1,[[.str (rwS nextS m (s,bad)).2.1,.bool (rwS nextS m (s,bad)).2.2]],[]⟩) (by kernel_rfl) (by kernel_rfl) (by kernel_rfl) (by
    rintro ⟨⟨⟩,m,⟨⟩,s,bad,⟨⟩⟩ hp
    refine m_le hm (own:=false) (by kernel_rfl) (by kernel_rfl) (by kernel_rfl) (T_rwI m s bad) ⟨K_rwIL,trivial⟩ ?_
    have hp' : m ≤ 1000:=hp
    unfold rwS
    dsimp only
    generalize nextS (s,bad) = z at *
    obtain ⟨d,s1,b1⟩:=z
    dsimp only at *
    refine ⟨fun c1 => ?_,fun c1 => ⟨?_,?_⟩⟩
    · have c1:wi d 0 m = false:=by simpa using c1
      rw [if_pos c1]
      exact ⟨rfl,rfl,rfl⟩
    · have c1:wi d 0 m = true:=by simpa using c1
      obtain ⟨d0,d1⟩:=wi_iff.1 c1
      exact ⟨by decide,d0,by omega,by decide⟩
    · have c1:wi d 0 m = true:=by simpa using c1
      rw [if_neg (by rw [c1]; decide),Int.sub_zero]
      have e:rowsA nextS [] d.toNat (s1,b1) = rowsS nextS d.toNat (s1,b1):=by unfold rowsA; rw [List.nil_append]
      rw [e]
      exact ⟨rfl,rfl,rfl⟩)
def L_rdIs:Lay:={ slots:=[(0,.ptr 1 0)],boxes:=[(1,[.ptr 2 0]),(2,[.val .str,.val .bool])] }
theorem T_rdIs (s:ByteArray) (bad:Bool):mTree (P:=P) [c_rwI.gc] (lpOf []) Tryz.f64 L_rdIs true ((),(),s,bad,()) =
  Tree.need ((10:Int) ≤ (1000:Int)) (.leaf { res:=SV.sl tI (rwS nextS (10:Int) (s,bad)).fst,boxes:=[[SV.ptr (2:Nat) (0:Nat)],[SV.str (rwS nextS (10:Int) (s,bad)).snd.fst,SV.bool (rwS nextS (10:Int) (s,bad)).snd.snd]] }):=by kernel_rfl
def c_rdIs:MC P:=MC.of (α:=Unit × Unit × ByteArray × Bool × Unit) 64 L_rdIs (fun x => x) (fun x => x) (fun _ => rfl)
  (fun _ => none)
  (fun (_,_,s,bad,_) => ⟨.sl tI (rowsR 10 (s,bad)).1,[[.ptr 2 0],[.str ((rowsR 10) (s,bad)).2.1,.bool ((rowsR 10) (s,bad)).2.2]],[]⟩) (by kernel_rfl) (by kernel_rfl) (by kernel_rfl) (by
    rintro ⟨⟨⟩,⟨⟩,s,bad,⟨⟩⟩ hp
    refine m_of hm (own:=true) (by kernel_rfl) (by kernel_rfl) (by kernel_rfl) (T_rdIs s bad) trivial ?_
    exact ⟨by decide,rfl⟩)
def L_rwIsL:Lay:={ slots:=[(2,.clo 64 [(1,0)]),(8,.row 28 tIs),(18,.val tI),(19,.val tI)],boxes:=[(1,[.ptr 2 0]),(2,[.val .str,.val .bool])] }
def L_rwIsL_0:Lay:={ slots:=[(8,.row 28 tIs)],boxes:=[(1,[.ptr 2 0]),(2,[.val .str,.val .bool])] }
def X_rwIsL:Exit → St → Option Lay
  | .exit 0,_ => some L_rwIsL_0
  | _,_ => none
abbrev C_rwIsL:Code:=loopC (bodyOf Tryz.f63) 0
theorem B_rwIsL (acc:List (List Int)) (n i:Int) (s:ByteArray) (bad:Bool):loopBodyA (P:=P) [c_rdIs.gc] (lpOf []) [] 28 (usd noU [1,2]) (inner C_rwIsL) L_rwIsL X_rwIsL (α:=Unit × List (List Int) × Int × Int × Unit × ByteArray × Bool × Unit) (fun x => x) (fun x => x) ((),acc,n,i,(),s,bad,()) =
  Tree.cond (decide (i < n)) (.need ((List.length acc + List.length [(rowsR (10:Int) (s,bad)).fst]) * (24:Nat) ≤ (140737488355328:Nat)) (.leaf (Sum.inl ((),acc ++ [(rowsR (10:Int) (s,bad)).fst],n,IntKind.i64.wrap (i + (1:Int)),(),(rowsR (10:Int) (s,bad)).snd.fst,(rowsR (10:Int) (s,bad)).snd.snd,())))) (.leaf (Sum.inr (Exit.exit (0:Nat),Lay.st L_rwIsL_0 (usd noU [(1:Nat),(2:Nat)]) (acc,(),s,bad,())))):=by kernel_rfl
def inv_rwIsL:Unit × List (List Int) × Int × Int × Unit × ByteArray × Bool × Unit → Prop:=fun (_,acc,n,i,_,s,bad,_) => 0 ≤ i ∧ i ≤ n ∧ n ≤ 1000 ∧ (acc.length:Int) ≤ i
def O_rwIsL:Unit × List (List Int) × Int × Int × Unit × ByteArray × Bool × Unit → Tree (Exit × St):=fun (_,acc,n,i,_,s,bad,_) => .leaf (.exit 0,L_rwIsL_0.st (usd noU [1,2]) ((rowsA (rowsR 10) acc (n - i).toNat (s,bad)).1,(),(rowsA (rowsR 10) acc (n - i).toNat (s,bad)).2.1,(rowsA (rowsR 10) acc (n - i).toNat (s,bad)).2.2,()))
def R_rwIsL:LRun:=runOf 28 L_rwIsL (fun x => x) (inv_rwIsL) (O_rwIsL)
theorem K_rwIsL:LoopOk P [] 28 none (usd noU [1,2]) C_rwIsL (R_rwIsL):=by
  refine loop_of hm (cx:=[c_rdIs.gc]) [] (xl:=X_rwIsL) (α:=Unit × List (List Int) × Int × Int × Unit × ByteArray × Bool × Unit) (fun x => x) (fun (_,acc,n,i,_,s,bad,_) => (n - i).toNat) (fun _ => rfl) (by kernel_rfl) (by kernel_rfl) ?_ (by kernel_rfl) trivial ?_
  · intro e S L' h
    unfold X_rwIsL at h
    split at h <;> first | (cases h; done) | (cases h; kernel_rfl) | (rcases bif_some h with h | h <;> cases h <;> kernel_rfl)
  · rintro ⟨⟨⟩,acc,n,i,⟨⟩,s,bad,⟨⟩⟩ hinv Q hQ
    refine hold_of_eq (B_rwIsL acc n i s bad) ?_
    obtain ⟨h0,h1,h2,h3⟩:=hinv
    have hQ' : Q (.exit 0,L_rwIsL_0.st (usd noU [1,2]) ((rowsA (rowsR 10) acc (n - i).toNat (s,bad)).1,(),(rowsA (rowsR 10) acc (n - i).toNat (s,bad)).2.1,(rowsA (rowsR 10) acc (n - i).toNat (s,bad)).2.2,())):=hQ
    rw [W_id (n:=i + 1) (by omega) (by omega)]
    refine ⟨fun c1 => ?_,fun c1 => ?_⟩
    · have c1:=of_decide_eq_true c1
      rw [show (n - i).toNat = (n - (i + 1)).toNat + 1 by omega,rowsA_step] at hQ'
      generalize (rowsR 10) (s,bad) = z at *
      obtain ⟨d0,s1,b1⟩:=z
      dsimp only at *
      exact ⟨by simp only [List.length_cons,List.length_nil]; omega,⟨⟨by omega,by omega,h2,by simp only [List.length_append,List.length_cons,List.length_nil]; omega⟩,by show (n - (i + 1)).toNat < (n - i).toNat; omega⟩,hQ'⟩
    · have c1:=of_decide_eq_false c1
      rw [show (n - i).toNat = 0 by omega,rowsA_zero] at hQ'
      exact hQ'
def L_rwIs:Lay:={ slots:=[(0,.ptr 2 0),(1,.val tI),(2,.clo 64 [(1,0)])],boxes:=[(1,[.ptr 2 0]),(2,[.val .str,.val .bool])] }
theorem T_rwIs (m:Int) (s:ByteArray) (bad:Bool):mTree (P:=P) [c_next.gc,c_within.gc] (lpOf [(0,R_rwIsL)]) Tryz.f63 L_rwIs false ((),m,(),(),s,bad,()) =
  Tree.cond (!wi (nextS (s,bad)).fst (0:Int) m) (.leaf { res:=SV.nils,boxes:=[[SV.ptr (2:Nat) (0:Nat)],[SV.str (nextS (s,bad)).snd.fst,SV.bool true]] }) (.need (inv_rwIsL ((),[],(nextS (s,bad)).fst,(0:Int),(),(nextS (s,bad)).snd.fst,(nextS (s,bad)).snd.snd,())) (.leaf { res:=SV.sl tIs (rowsA (rowsR (10:Int)) [] (Int.toNat ((nextS (s,bad)).fst - (0:Int))) (nextS (s,bad)).snd).fst,boxes:=[[SV.ptr (2:Nat) (0:Nat)],[SV.str (rowsA (rowsR (10:Int)) [] (Int.toNat ((nextS (s,bad)).fst - (0:Int))) (nextS (s,bad)).snd).snd.fst,SV.bool (rowsA (rowsR (10:Int)) [] (Int.toNat ((nextS (s,bad)).fst - (0:Int))) (nextS (s,bad)).snd).snd.snd]] })):=by kernel_rfl
def c_rwIs:MC P:=MC.of (α:=Unit × Int × Unit × Unit × ByteArray × Bool × Unit) 63 L_rwIs (fun x => x) (fun x => x) (fun _ => rfl)
  (fun (_,m,_,_,s,bad,_) => some (m ≤ 1000))
  (fun (_,m,_,_,s,bad,_) => ⟨.sl tIs (rwS (rowsR 10) m (s,bad)).1,[[.ptr 2 0],[.str (rwS (rowsR 10) m (s,bad)).2.1,.bool (rwS (rowsR 10) m (s,bad)).2.2]],[]⟩) (by kernel_rfl) (by kernel_rfl) (by kernel_rfl) (by
    rintro ⟨⟨⟩,m,⟨⟩,⟨⟩,s,bad,⟨⟩⟩ hp
    refine m_le hm (own:=false) (by kernel_rfl) (by kernel_rfl) (by kernel_rfl) (T_rwIs m s bad) ⟨K_rwIsL,trivial⟩ ?_
    have hp' : m ≤ 1000:=hp
    unfold rwS
    dsimp only
    generalize nextS (s,bad) = z at *
    obtain ⟨d,s1,b1⟩:=z
    dsimp only at *
    refine ⟨fun c1 => ?_,fun c1 => ⟨?_,?_⟩⟩
    · have c1:wi d 0 m = false:=by simpa using c1
      rw [if_pos c1]
      exact ⟨rfl,rfl,rfl⟩
    · have c1:wi d 0 m = true:=by simpa using c1
      obtain ⟨d0,d1⟩:=wi_iff.1 c1
      exact ⟨by decide,d0,by omega,by decide⟩
    · have c1:wi d 0 m = true:=by simpa using c1
      rw [if_neg (by rw [c1]; decide),Int.sub_zero]
      have e:rowsA (rowsR 10) [] d.toNat (s1,b1) = rowsS (rowsR 10) d.toNat (s1,b1):=by unfold rowsA; rw [List.nil_append]
      rw [e]
      exact ⟨rfl,rfl,rfl⟩)
def L_rdPm:Lay:={ slots:=[(0,.ptr 1 0)],boxes:=[(1,[.ptr 2 0]),(2,[.val .str,.val .bool])] }
theorem T_rdPm (s:ByteArray) (bad:Bool):mTree (P:=P) [c_next.gc,c_number.gc] (lpOf []) Tryz.f67 L_rdPm true ((),(),s,bad,()) =
  Tree.cond (nextS (nextS (nextS (nextS (s,bad)).snd).snd).snd).snd.snd (.leaf { res:=SV.agg [SV.int IntKind.i64 (nextS (s,bad)).fst,SV.int IntKind.i64 (nextS (nextS (s,bad)).snd).fst,SV.int IntKind.i64 (nextS (nextS (nextS (s,bad)).snd).snd).fst,SV.bool ((nextS (nextS (nextS (nextS (s,bad)).snd).snd).snd).fst == (1:Int))],boxes:=[[SV.ptr (2:Nat) (0:Nat)],[SV.str (nextS (nextS (nextS (nextS (s,bad)).snd).snd).snd).snd.fst,SV.bool true]] }) (.cond ((nextS (nextS (nextS (nextS (s,bad)).snd).snd).snd).fst != (0:Int)) (.leaf { res:=SV.agg [SV.int IntKind.i64 (nextS (s,bad)).fst,SV.int IntKind.i64 (nextS (nextS (s,bad)).snd).fst,SV.int IntKind.i64 (nextS (nextS (nextS (s,bad)).snd).snd).fst,SV.bool ((nextS (nextS (nextS (nextS (s,bad)).snd).snd).snd).fst == (1:Int))],boxes:=[[SV.ptr (2:Nat) (0:Nat)],[SV.str (nextS (nextS (nextS (nextS (s,bad)).snd).snd).snd).snd.fst,SV.bool ((nextS (nextS (nextS (nextS (s,bad)).snd).snd).snd).fst != (1:Int))]] }) (.leaf { res:=SV.agg [SV.int IntKind.i64 (nextS (s,bad)).fst,SV.int IntKind.i64 (nextS (nextS (s,bad)).snd).fst,SV.int IntKind.i64 (nextS (nextS (nextS (s,bad)).snd).snd).fst,SV.bool ((nextS (nextS (nextS (nextS (s,bad)).snd).snd).snd).fst == (1:Int))],boxes:=[[SV.ptr (2:Nat) (0:Nat)],[SV.str (nextS (nextS (nextS (nextS (s,bad)).snd).snd).snd).snd.fst,SV.bool false]] })):=by kernel_rfl
def c_rdPm:MC P:=MC.of (α:=Unit × Unit × ByteArray × Bool × Unit) 67 L_rdPm (fun x => x) (fun x => x) (fun _ => rfl)
  (fun _ => none)
  (fun (_,_,s,bad,_) => ⟨.agg [.int .i64 (pmR (s,bad)).1.1,.int .i64 (pmR (s,bad)).1.2.1,.int .i64 (pmR (s,bad)).1.2.2.1,.bool (pmR (s,bad)).1.2.2.2],[[.ptr 2 0],[.str (pmR (s,bad)).2.1,.bool (pmR (s,bad)).2.2]],[]⟩) (by kernel_rfl) (by kernel_rfl) (by kernel_rfl) (by
    rintro ⟨⟨⟩,⟨⟩,s,bad,⟨⟩⟩ hp
    refine m_of hm (own:=true) (by kernel_rfl) (by kernel_rfl) (by kernel_rfl) (T_rdPm s bad) trivial ?_
    unfold pmR
    dsimp only
    generalize nextS (s,bad) = z1
    obtain ⟨d1,s1,b1⟩:=z1
    dsimp only
    generalize nextS (s1,b1) = z2
    obtain ⟨d2,s2,b2⟩:=z2
    dsimp only
    generalize nextS (s2,b2) = z3
    obtain ⟨d3,s3,b3⟩:=z3
    dsimp only
    generalize nextS (s3,b3) = z4
    obtain ⟨d4,s4,b4⟩:=z4
    dsimp only
    refine ⟨fun c1 => ?_,fun c1 => ⟨fun c2 => ?_,fun c2 => ?_⟩⟩
    · rw [show b4 = true from c1,Bool.true_or]; exact rfl
    · rw [show b4 = false from c1,show (d4 != 0) = true from c2,Bool.false_or,Bool.true_and]; exact rfl
    · rw [show b4 = false from c1,show (d4 != 0) = false from c2,Bool.false_or,Bool.false_and]; exact rfl)
def L_rwPmL:Lay:={ slots:=[(2,.clo 67 [(1,0)]),(8,.row 71 tPm),(18,.val tI),(19,.val tI)],boxes:=[(1,[.ptr 2 0]),(2,[.val .str,.val .bool])] }
def L_rwPmL_0:Lay:={ slots:=[(8,.row 71 tPm)],boxes:=[(1,[.ptr 2 0]),(2,[.val .str,.val .bool])] }
def X_rwPmL:Exit → St → Option Lay
  | .exit 0,_ => some L_rwPmL_0
  | _,_ => none
abbrev C_rwPmL:Code:=loopC (bodyOf Tryz.f66) 0
theorem B_rwPmL (acc:List Pm) (n i:Int) (s:ByteArray) (bad:Bool):loopBodyA (P:=P) [c_rdPm.gc] (lpOf []) [] 28 (usd noU [1,2]) (inner C_rwPmL) L_rwPmL X_rwPmL (α:=Unit × List Pm × Int × Int × Unit × ByteArray × Bool × Unit) (fun x => x) (fun x => x) ((),acc,n,i,(),s,bad,()) =
  Tree.cond (decide (i < n)) (.need ((List.length acc + List.length [(pmR (s,bad)).fst]) * (32:Nat) ≤ (140737488355328:Nat)) (.leaf (Sum.inl ((),acc ++ [(pmR (s,bad)).fst],n,IntKind.i64.wrap (i + (1:Int)),(),(pmR (s,bad)).snd.fst,(pmR (s,bad)).snd.snd,())))) (.leaf (Sum.inr (Exit.exit (0:Nat),Lay.st L_rwPmL_0 (usd noU [(1:Nat),(2:Nat)]) (acc,(),s,bad,())))):=by kernel_rfl
def inv_rwPmL:Unit × List Pm × Int × Int × Unit × ByteArray × Bool × Unit → Prop:=fun (_,acc,n,i,_,s,bad,_) => 0 ≤ i ∧ i ≤ n ∧ n ≤ 1000 ∧ (acc.length:Int) ≤ i
def O_rwPmL:Unit × List Pm × Int × Int × Unit × ByteArray × Bool × Unit → Tree (Exit × St):=fun (_,acc,n,i,_,s,bad,_) => .leaf (.exit 0,L_rwPmL_0.st (usd noU [1,2]) ((rowsA pmR acc (n - i).toNat (s,bad)).1,(),(rowsA pmR acc (n - i).toNat (s,bad)).2.1,(rowsA pmR acc (n - i).toNat (s,bad)).2.2,()))
def R_rwPmL:LRun:=runOf 28 L_rwPmL (fun x => x) (inv_rwPmL) (O_rwPmL)
theorem K_rwPmL:LoopOk P [] 28 none (usd noU [1,2]) C_rwPmL (R_rwPmL):=by
  refine loop_of hm (cx:=[c_rdPm.gc]) [] (xl:=X_rwPmL) (α:=Unit × List Pm × Int × Int × Unit × ByteArray × Bool × Unit) (fun x => x) (fun (_,acc,n,i,_,s,bad,_) => (n - i).toNat) (fun _ => rfl) (by kernel_rfl) (by kernel_rfl) ?_ (by kernel_rfl) trivial ?_
  · intro e S L' h
    unfold X_rwPmL at h
    split at h <;> first | (cases h; done) | (cases h; kernel_rfl) | (rcases bif_some h with h | h <;> cases h <;> kernel_rfl)
  · rintro ⟨⟨⟩,acc,n,i,⟨⟩,s,bad,⟨⟩⟩ hinv Q hQ
    refine hold_of_eq (B_rwPmL acc n i s bad) ?_
    obtain ⟨h0,h1,h2,h3⟩:=hinv
    have hQ' : Q (.exit 0,L_rwPmL_0.st (usd noU [1,2]) ((rowsA pmR acc (n - i).toNat (s,bad)).1,(),(rowsA pmR acc (n - i).toNat (s,bad)).2.1,(rowsA pmR acc (n - i).toNat (s,bad)).2.2,())):=hQ
    rw [W_id (n:=i + 1) (by omega) (by omega)]
    refine ⟨fun c1 => ?_,fun c1 => ?_⟩
    · have c1:=of_decide_eq_true c1
      rw [show (n - i).toNat = (n - (i + 1)).toNat + 1 by omega,rowsA_step] at hQ'
      generalize pmR (s,bad) = z at *
      obtain ⟨⟨d0,d1,d2,d3⟩,s1,b1⟩:=z
      dsimp only at *
      exact ⟨by simp only [List.length_cons,List.length_nil]; omega,⟨⟨by omega,by omega,h2,by simp only [List.length_append,List.length_cons,List.length_nil]; omega⟩,by show (n - (i + 1)).toNat < (n - i).toNat; omega⟩,hQ'⟩
    · have c1:=of_decide_eq_false c1
      rw [show (n - i).toNat = 0 by omega,rowsA_zero] at hQ'
      exact hQ'
def L_rwPm:Lay:={ slots:=[(0,.ptr 2 0),(1,.val tI),(2,.clo 67 [(1,0)])],boxes:=[(1,[.ptr 2 0]),(2,[.val .str,.val .bool])] }
theorem T_rwPm (m:Int) (s:ByteArray) (bad:Bool):mTree (P:=P) [c_next.gc,c_within.gc] (lpOf [(0,R_rwPmL)]) Tryz.f66 L_rwPm false ((),m,(),(),s,bad,()) =
  Tree.cond (!wi (nextS (s,bad)).fst (0:Int) m) (.leaf { res:=SV.nils,boxes:=[[SV.ptr (2:Nat) (0:Nat)],[SV.str (nextS (s,bad)).snd.fst,SV.bool true]] }) (.need (inv_rwPmL ((),[],(nextS (s,bad)).fst,(0:Int),(),(nextS (s,bad)).snd.fst,(nextS (s,bad)).snd.snd,())) (.leaf { res:=SV.sl tPm (rowsA pmR [] (Int.toNat ((nextS (s,bad)).fst - (0:Int))) (nextS (s,bad)).snd).fst,boxes:=[[SV.ptr (2:Nat) (0:Nat)],[SV.str (rowsA pmR [] (Int.toNat ((nextS (s,bad)).fst - (0:Int))) (nextS (s,bad)).snd).snd.fst,SV.bool (rowsA pmR [] (Int.toNat ((nextS (s,bad)).fst - (0:Int))) (nextS (s,bad)).snd).snd.snd]] })):=by kernel_rfl
def c_rwPm:MC P:=MC.of (α:=Unit × Int × Unit × Unit × ByteArray × Bool × Unit) 66 L_rwPm (fun x => x) (fun x => x) (fun _ => rfl)
  (fun (_,m,_,_,s,bad,_) => some (m ≤ 1000))
  (fun (_,m,_,_,s,bad,_) => ⟨.sl tPm (rwS pmR m (s,bad)).1,[[.ptr 2 0],[.str (rwS pmR m (s,bad)).2.1,.bool (rwS pmR m (s,bad)).2.2]],[]⟩) (by kernel_rfl) (by kernel_rfl) (by kernel_rfl) (by
    rintro ⟨⟨⟩,m,⟨⟩,⟨⟩,s,bad,⟨⟩⟩ hp
    refine m_le hm (own:=false) (by kernel_rfl) (by kernel_rfl) (by kernel_rfl) (T_rwPm m s bad) ⟨K_rwPmL,trivial⟩ ?_
    have hp' : m ≤ 1000:=hp
    unfold rwS
    dsimp only
    generalize nextS (s,bad) = z at *
    obtain ⟨d,s1,b1⟩:=z
    dsimp only at *
    refine ⟨fun c1 => ?_,fun c1 => ⟨?_,?_⟩⟩
    · have c1:wi d 0 m = false:=by simpa using c1
      rw [if_pos c1]
      exact ⟨rfl,rfl,rfl⟩
    · have c1:wi d 0 m = true:=by simpa using c1
      obtain ⟨d0,d1⟩:=wi_iff.1 c1
      exact ⟨by decide,d0,by omega,by decide⟩
    · have c1:wi d 0 m = true:=by simpa using c1
      rw [if_neg (by rw [c1]; decide),Int.sub_zero]
      have e:rowsA pmR [] d.toNat (s1,b1) = rowsS pmR d.toNat (s1,b1):=by unfold rowsA; rw [List.nil_append]
      rw [e]
      exact ⟨rfl,rfl,rfl⟩)
def L_rdEn:Lay:={ slots:=[(0,.ptr 1 0)],boxes:=[(1,[.ptr 2 0]),(2,[.val .str,.val .bool])] }
theorem T_rdEn (s:ByteArray) (bad:Bool):mTree (P:=P) [c_next.gc,c_number.gc] (lpOf []) Tryz.f69 L_rdEn true ((),(),s,bad,()) =
  Tree.leaf { res:=SV.agg [SV.int IntKind.i64 (nextS (s,bad)).fst,SV.int IntKind.i64 (nextS (nextS (s,bad)).snd).fst,SV.int IntKind.i64 (nextS (nextS (nextS (s,bad)).snd).snd).fst,SV.int IntKind.i64 (nextS (nextS (nextS (nextS (s,bad)).snd).snd).snd).fst,SV.int IntKind.i64 (nextS (nextS (nextS (nextS (nextS (s,bad)).snd).snd).snd).snd).fst,SV.int IntKind.i64 (nextS (nextS (nextS (nextS (nextS (nextS (s,bad)).snd).snd).snd).snd).snd).fst],boxes:=[[SV.ptr (2:Nat) (0:Nat)],[SV.str (nextS (nextS (nextS (nextS (nextS (nextS (s,bad)).snd).snd).snd).snd).snd).snd.fst,SV.bool (nextS (nextS (nextS (nextS (nextS (nextS (s,bad)).snd).snd).snd).snd).snd).snd.snd]] }:=by kernel_rfl
def c_rdEn:MC P:=MC.of (α:=Unit × Unit × ByteArray × Bool × Unit) 69 L_rdEn (fun x => x) (fun x => x) (fun _ => rfl)
  (fun _ => none)
  (fun (_,_,s,bad,_) => ⟨.agg [.int .i64 (enR (s,bad)).1.1,.int .i64 (enR (s,bad)).1.2.1,.int .i64 (enR (s,bad)).1.2.2.1,.int .i64 (enR (s,bad)).1.2.2.2.1,.int .i64 (enR (s,bad)).1.2.2.2.2.1,.int .i64 (enR (s,bad)).1.2.2.2.2.2],[[.ptr 2 0],[.str (enR (s,bad)).2.1,.bool (enR (s,bad)).2.2]],[]⟩) (by kernel_rfl) (by kernel_rfl) (by kernel_rfl) (by
    rintro ⟨⟨⟩,⟨⟩,s,bad,⟨⟩⟩ hp
    refine m_of hm (own:=true) (by kernel_rfl) (by kernel_rfl) (by kernel_rfl) (T_rdEn s bad) trivial ?_
    unfold enR
    dsimp only
    generalize nextS (s,bad) = z1
    obtain ⟨d1,s1,b1⟩:=z1
    dsimp only
    generalize nextS (s1,b1) = z2
    obtain ⟨d2,s2,b2⟩:=z2
    dsimp only
    generalize nextS (s2,b2) = z3
    obtain ⟨d3,s3,b3⟩:=z3
    dsimp only
    generalize nextS (s3,b3) = z4
    obtain ⟨d4,s4,b4⟩:=z4
    dsimp only
    generalize nextS (s4,b4) = z5
    obtain ⟨d5,s5,b5⟩:=z5
    dsimp only
    generalize nextS (s5,b5) = z6
    obtain ⟨d6,s6,b6⟩:=z6
    dsimp only
    exact rfl)
def L_rwEnL:Lay:={ slots:=[(2,.clo 69 [(1,0)]),(8,.row 42 tEntry),(18,.val tI),(19,.val tI)],boxes:=[(1,[.ptr 2 0]),(2,[.val .str,.val .bool])] }
def L_rwEnL_0:Lay:={ slots:=[(8,.row 42 tEntry)],boxes:=[(1,[.ptr 2 0]),(2,[.val .str,.val .bool])] }
def X_rwEnL:Exit → St → Option Lay
  | .exit 0,_ => some L_rwEnL_0
  | _,_ => none
abbrev C_rwEnL:Code:=loopC (bodyOf Tryz.f68) 0
theorem B_rwEnL (acc:List Entry) (n i:Int) (s:ByteArray) (bad:Bool):loopBodyA (P:=P) [c_rdEn.gc] (lpOf []) [] 28 (usd noU [1,2]) (inner C_rwEnL) L_rwEnL X_rwEnL (α:=Unit × List Entry × Int × Int × Unit × ByteArray × Bool × Unit) (fun x => x) (fun x => x) ((),acc,n,i,(),s,bad,()) =
  Tree.cond (decide (i < n)) (.need ((List.length acc + List.length [(enR (s,bad)).fst]) * (48:Nat) ≤ (140737488355328:Nat)) (.leaf (Sum.inl ((),acc ++ [(enR (s,bad)).fst],n,IntKind.i64.wrap (i + (1:Int)),(),(enR (s,bad)).snd.fst,(enR (s,bad)).snd.snd,())))) (.leaf (Sum.inr (Exit.exit (0:Nat),Lay.st L_rwEnL_0 (usd noU [(1:Nat),(2:Nat)]) (acc,(),s,bad,())))):=by kernel_rfl
def inv_rwEnL:Unit × List Entry × Int × Int × Unit × ByteArray × Bool × Unit → Prop:=fun (_,acc,n,i,_,s,bad,_) => 0 ≤ i ∧ i ≤ n ∧ n ≤ 1000 ∧ (acc.length:Int) ≤ i
def O_rwEnL:Unit × List Entry × Int × Int × Unit × ByteArray × Bool × Unit → Tree (Exit × St):=fun (_,acc,n,i,_,s,bad,_) => .leaf (.exit 0,L_rwEnL_0.st (usd noU [1,2]) ((rowsA enR acc (n - i).toNat (s,bad)).1,(),(rowsA enR acc (n - i).toNat (s,bad)).2.1,(rowsA enR acc (n - i).toNat (s,bad)).2.2,()))
def R_rwEnL:LRun:=runOf 28 L_rwEnL (fun x => x) (inv_rwEnL) (O_rwEnL)
theorem K_rwEnL:LoopOk P [] 28 none (usd noU [1,2]) C_rwEnL (R_rwEnL):=by
  refine loop_of hm (cx:=[c_rdEn.gc]) [] (xl:=X_rwEnL) (α:=Unit × List Entry × Int × Int × Unit × ByteArray × Bool × Unit) (fun x => x) (fun (_,acc,n,i,_,s,bad,_) => (n - i).toNat) (fun _ => rfl) (by kernel_rfl) (by kernel_rfl) ?_ (by kernel_rfl) trivial ?_
  · intro e S L' h
    unfold X_rwEnL at h
    split at h <;> first | (cases h; done) | (cases h; kernel_rfl) | (rcases bif_some h with h | h <;> cases h <;> kernel_rfl)
  · rintro ⟨⟨⟩,acc,n,i,⟨⟩,s,bad,⟨⟩⟩ hinv Q hQ
    refine hold_of_eq (B_rwEnL acc n i s bad) ?_
    obtain ⟨h0,h1,h2,h3⟩:=hinv
    have hQ' : Q (.exit 0,L_rwEnL_0.st (usd noU [1,2]) ((rowsA enR acc (n - i).toNat (s,bad)).1,(),(rowsA enR acc (n - i).toNat (s,bad)).2.1,(rowsA enR acc (n - i).toNat (s,bad)).2.2,())):=hQ
    rw [W_id (n:=i + 1) (by omega) (by omega)]
    refine ⟨fun c1 => ?_,fun c1 => ?_⟩
    · have c1:=of_decide_eq_true c1
      rw [show (n - i).toNat = (n - (i + 1)).toNat + 1 by omega,rowsA_step] at hQ'
      generalize enR (s,bad) = z at *
      obtain ⟨⟨d0,d1,d2,d3,d4,d5⟩,s1,b1⟩:=z
      dsimp only at *
      exact ⟨by simp only [List.length_cons,List.length_nil]; omega,⟨⟨by omega,by omega,h2,by simp only [List.length_append,List.length_cons,List.length_nil]; omega⟩,by show (n - (i + 1)).toNat < (n - i).toNat; omega⟩,hQ'⟩
    · have c1:=of_decide_eq_false c1
      rw [show (n - i).toNat = 0 by omega,rowsA_zero] at hQ'
      exact hQ'
def L_rwEn:Lay:={ slots:=[(0,.ptr 2 0),(1,.val tI),(2,.clo 69 [(1,0)])],boxes:=[(1,[.ptr 2 0]),(2,[.val .str,.val .bool])] }
theorem T_rwEn (m:Int) (s:ByteArray) (bad:Bool):mTree (P:=P) [c_next.gc,c_within.gc] (lpOf [(0,R_rwEnL)]) Tryz.f68 L_rwEn false ((),m,(),(),s,bad,()) =
  Tree.cond (!wi (nextS (s,bad)).fst (0:Int) m) (.leaf { res:=SV.nils,boxes:=[[SV.ptr (2:Nat) (0:Nat)],[SV.str (nextS (s,bad)).snd.fst,SV.bool true]] }) (.need (inv_rwEnL ((),[],(nextS (s,bad)).fst,(0:Int),(),(nextS (s,bad)).snd.fst,(nextS (s,bad)).snd.snd,())) (.leaf { res:=SV.sl tEntry (rowsA enR [] (Int.toNat ((nextS (s,bad)).fst - (0:Int))) (nextS (s,bad)).snd).fst,boxes:=[[SV.ptr (2:Nat) (0:Nat)],[SV.str (rowsA enR [] (Int.toNat ((nextS (s,bad)).fst - (0:Int))) (nextS (s,bad)).snd).snd.fst,SV.bool (rowsA enR [] (Int.toNat ((nextS (s,bad)).fst - (0:Int))) (nextS (s,bad)).snd).snd.snd]] })):=by kernel_rfl
def c_rwEn:MC P:=MC.of (α:=Unit × Int × Unit × Unit × ByteArray × Bool × Unit) 68 L_rwEn (fun x => x) (fun x => x) (fun _ => rfl)
  (fun (_,m,_,_,s,bad,_) => some (m ≤ 1000))
  (fun (_,m,_,_,s,bad,_) => ⟨.sl tEntry (rwS enR m (s,bad)).1,[[.ptr 2 0],[.str (rwS enR m (s,bad)).2.1,.bool (rwS enR m (s,bad)).2.2]],[]⟩) (by kernel_rfl) (by kernel_rfl) (by kernel_rfl) (by
    rintro ⟨⟨⟩,m,⟨⟩,⟨⟩,s,bad,⟨⟩⟩ hp
    refine m_le hm (own:=false) (by kernel_rfl) (by kernel_rfl) (by kernel_rfl) (T_rwEn m s bad) ⟨K_rwEnL,trivial⟩ ?_
    have hp' : m ≤ 1000:=hp
    unfold rwS
    dsimp only
    generalize nextS (s,bad) = z at *
    obtain ⟨d,s1,b1⟩:=z
    dsimp only at *
    refine ⟨fun c1 => ?_,fun c1 => ⟨?_,?_⟩⟩
    · have c1:wi d 0 m = false:=by simpa using c1
      rw [if_pos c1]
      exact ⟨rfl,rfl,rfl⟩
    · have c1:wi d 0 m = true:=by simpa using c1
      obtain ⟨d0,d1⟩:=wi_iff.1 c1
      exact ⟨by decide,d0,by omega,by decide⟩
    · have c1:wi d 0 m = true:=by simpa using c1
      rw [if_neg (by rw [c1]; decide),Int.sub_zero]
      have e:rowsA enR [] d.toNat (s1,b1) = rowsS enR d.toNat (s1,b1):=by unfold rowsA; rw [List.nil_append]
      rw [e]
      exact ⟨rfl,rfl,rfl⟩)
end
end Go.MB
