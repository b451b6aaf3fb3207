/- What the laws are made with: numbers, copies, equal sites. -/
import Derived.Test.YtfhomgggbhjglaaGreatMuH
namespace Go.MB
open Go Go.Sx Go.Proofs
set_option linter.unusedVariables false
set_option linter.unusedSimpArgs false
noncomputable section
def R64 (n:Int):Prop:=-9223372036854775808 ≤ n ∧ n ≤ 9223372036854775807
theorem tmod_pos {a b:Int} (hb:0 < b):Int.tmod a b = a % b ∨ (Int.tmod a b = a % b - b ∧ a < 0):=by
  rw [Int.tmod_eq_emod]
  split
  · left; omega
  · right
    have:(b.natAbs:Int) = b:=by omega
    exact ⟨by omega,by omega⟩
theorem T_Mod64 (a b:Int):fnTree (P:=P) [] (lpOf []) Tryz.f34 (encL 0 [.val tI,.val tI] (a,b,())) =
  Tree.need (b ≠ (0:Int)) (.cond (decide (Int.tmod a b < (0:Int))) (.leaf (SV.int IntKind.i64 (IntKind.i64.wrap (Int.tmod a b + b)))) (.leaf (SV.int IntKind.i64 (Int.tmod a b)))):=by kernel_rfl
def c_Mod64:PC P:=PC.of (α:=Int × Int × Unit) 34 [.val tI,.val tI] (fun x => x) (fun x => x) (fun _ => rfl)
  (fun x => some (0 < x.2.1 ∧ R64 x.2.1))
  (fun x => .int .i64 (x.1 % x.2.1)) (by kernel_rfl) (by
    rintro ⟨a,b,⟨⟩⟩ hp
    refine fn_of hm (by kernel_rfl) (by kernel_rfl) (T_Mod64 a b) trivial ?_
    obtain ⟨h0,h1,h2⟩ : 0 < b ∧ R64 b:=hp
    have h3:=Int.emod_nonneg a (show b ≠ 0 by omega)
    have h4:=Int.emod_lt_of_pos a h0
    refine ⟨by omega,fun h => ?_,fun h => ?_⟩
    · simp only [decide_eq_true_eq] at h
      show SV.int .i64 _ = SV.int .i64 (a % b)
      rcases tmod_pos (a:=a) h0 with e | ⟨e,_⟩
      · omega
      · rw [e,W_id (by omega) (by omega)]; congr 1; omega
    · simp only [decide_eq_false_iff_not] at h
      show SV.int .i64 _ = SV.int .i64 (a % b)
      rcases tmod_pos (a:=a) h0 with e | ⟨e,_⟩
      · rw [e]
      · omega)
theorem T_Mod (a b:Int):fnTree (P:=P) [] (lpOf []) Tryz.f28 (encL 0 [.val tI,.val tI] (a,b,())) =
  Tree.need (b ≠ (0:Int)) (.cond (decide (Int.tmod a b < (0:Int))) (.leaf (SV.int IntKind.i64 (IntKind.i64.wrap (Int.tmod a b + b)))) (.leaf (SV.int IntKind.i64 (Int.tmod a b)))):=by kernel_rfl
def c_Mod:PC P:=PC.of (α:=Int × Int × Unit) 28 [.val tI,.val tI] (fun x => x) (fun x => x) (fun _ => rfl)
  (fun x => some (0 < x.2.1 ∧ R64 x.2.1))
  (fun x => .int .i64 (x.1 % x.2.1)) (by kernel_rfl) (by
    rintro ⟨a,b,⟨⟩⟩ hp
    refine fn_of hm (by kernel_rfl) (by kernel_rfl) (T_Mod a b) trivial ?_
    obtain ⟨h0,h1,h2⟩ : 0 < b ∧ R64 b:=hp
    have h3:=Int.emod_nonneg a (show b ≠ 0 by omega)
    have h4:=Int.emod_lt_of_pos a h0
    refine ⟨by omega,fun h => ?_,fun h => ?_⟩
    · simp only [decide_eq_true_eq] at h
      show SV.int .i64 _ = SV.int .i64 (a % b)
      rcases tmod_pos (a:=a) h0 with e | ⟨e,_⟩
      · omega
      · rw [e,W_id (by omega) (by omega)]; congr 1; omega
    · simp only [decide_eq_false_iff_not] at h
      show SV.int .i64 _ = SV.int .i64 (a % b)
      rcases tmod_pos (a:=a) h0 with e | ⟨e,_⟩
      · rw [e]
      · omega)
def rnX (l:List Int) (k:Int):Int:=(k * 7919) % 10007 + (if 0 < (l.length:Int) then (l.getD (k % l.length).toNat 0 % 1048576) / (1 + k / l.length) else 0)
def rnS (l:List Int) (at' n:Int):Int:=rnX l (at' + 1) % n
theorem rnS_rng {l:List Int} {k n:Int} (h:0 ≤ k) (hn:0 < n):0 ≤ rnS l k n ∧ rnS l k n < n :=
  ⟨Int.emod_nonneg _ (by omega),Int.emod_lt_of_pos _ hn⟩
def L_RNext:Lay:={ slots:=[(0,.ptr 1 0),(1,.val tI)],boxes:=[(1,[.val tIs,.val tI])] }
theorem T_RNext (n:Int) (l:List Int) (k:Int):mTree (P:=P) [c_Mod.gc] (lpOf []) Tryz.f48 L_RNext true ((),n,l,k,()) =
  Tree.need ((10007:Int) ≠ (0:Int)) (.cond (decide ((l.length:Int) > (0:Int))) (.need ((l.length:Int) ≠ (0:Int)) (.need ((0:Int) ≤ Int.tmod (IntKind.i64.wrap (k + (1:Int))) (l.length:Int) ∧ Int.tmod (IntKind.i64.wrap (k + (1:Int))) (l.length:Int) < (l.length:Int)) (.need ((0:Int) < (1048576:Int) ∧ R64 (1048576:Int)) (.need ((l.length:Int) ≠ (0:Int)) (.need (IntKind.i64.wrap ((1:Int) + IntKind.i64.wrap (Int.tdiv (IntKind.i64.wrap (k + (1:Int))) (l.length:Int))) ≠ (0:Int)) (.need (n ≠ (0:Int)) (.leaf { res:=SV.int IntKind.i64 (Int.tmod (IntKind.i64.wrap (Int.tmod (IntKind.i64.wrap (IntKind.i64.wrap (k + (1:Int)) * (7919:Int))) (10007:Int) + IntKind.i64.wrap (Int.tdiv (List.getD l (Int.toNat (Int.tmod (IntKind.i64.wrap (k + (1:Int))) (l.length:Int))) (0:Int) % (1048576:Int)) (IntKind.i64.wrap ((1:Int) + IntKind.i64.wrap (Int.tdiv (IntKind.i64.wrap (k + (1:Int))) (l.length:Int))))))) n),boxes:=[[SV.sl tI l,SV.int IntKind.i64 (IntKind.i64.wrap (k + (1:Int)))]] }))))))) (.need (n ≠ (0:Int)) (.leaf { res:=SV.int IntKind.i64 (Int.tmod (Int.tmod (IntKind.i64.wrap (IntKind.i64.wrap (k + (1:Int)) * (7919:Int))) (10007:Int)) n),boxes:=[[SV.sl tI l,SV.int IntKind.i64 (IntKind.i64.wrap (k + (1:Int)))]] }))):=by kernel_rfl
def c_RNext:MC P:=MC.of (α:=Unit × Int × List Int × Int × Unit) 48 L_RNext (fun x => x) (fun x => x) (fun _ => rfl)
  (fun (_,n,l,k,_) => some (0 ≤ k ∧ k < 1099511627776 ∧ 0 < n))
  (fun (_,n,l,k,_) => ⟨.int .i64 (rnS l k n),[[.sl tI l,.int .i64 (k + 1)]],[]⟩) (by kernel_rfl) (by kernel_rfl) (by kernel_rfl) (by
    rintro ⟨⟨⟩,n,l,k,⟨⟩⟩ hp
    refine m_of hm (own:=true) (by kernel_rfl) (by kernel_rfl) (by kernel_rfl) (T_RNext n l k) trivial ?_
    obtain ⟨h0,h1,h2⟩ : 0 ≤ k ∧ k < 1099511627776 ∧ 0 < n:=hp
    show Tree.holds (fun s => s = (⟨.int .i64 (rnS l k n),[[.sl tI l,.int .i64 (k + 1)]],[]⟩ : MOut)) _
    have e0:=Int.tmod_eq_emod_of_nonneg (show 0 ≤ (k + 1) * 7919 by omega) (b:=10007)
    have r1:=Int.emod_nonneg ((k + 1) * 7919) (show (10007:Int) ≠ 0 by decide)
    have r2:=Int.emod_lt_of_pos ((k + 1) * 7919) (show (0:Int) < 10007 by decide)
    rw [W_id (n:=k + 1) (by omega) (by omega),W_id (n:=(k + 1) * 7919) (by omega) (by omega),e0]
    refine ⟨by decide,fun hl => ?_,fun hl => ?_⟩
    · simp only [gt_iff_lt,decide_eq_true_eq] at hl
      have e1:=Int.tmod_eq_emod_of_nonneg (show 0 ≤ k + 1 by omega) (b:=(l.length:Int))
      have e2:=Int.tdiv_eq_ediv_of_nonneg (show 0 ≤ k + 1 by omega) (b:=(l.length:Int))
      have q1:0 ≤ (k + 1) / (l.length:Int):=Int.ediv_nonneg (by omega) (by omega)
      have q2:=Int.ediv_le_self (l.length:Int) (show 0 ≤ k + 1 by omega)
      have m1:=Int.emod_nonneg (k + 1) (show (l.length:Int) ≠ 0 by omega)
      have m2:=Int.emod_lt_of_pos (k + 1) hl
      rw [e1,e2]
      generalize hg:l.getD ((k + 1) % (l.length:Int)).toNat 0 = g at *
      have x1:=Int.emod_nonneg g (show (1048576:Int) ≠ 0 by decide)
      have x2:=Int.emod_lt_of_pos g (show (0:Int) < 1048576 by decide)
      have e3:=Int.tdiv_eq_ediv_of_nonneg x1 (b:=1 + (k + 1) / (l.length:Int))
      have y1:=Int.ediv_nonneg x1 (show 0 ≤ 1 + (k + 1) / (l.length:Int) by omega)
      have y2:=Int.ediv_le_self (1 + (k + 1) / (l.length:Int)) x1
      rw [W_id (n:=(k + 1) / (l.length:Int)) (by omega) (by omega),W_id (n:=1 + (k + 1) / (l.length:Int)) (by omega) (by omega),e3,W_id (n:=g % 1048576 / (1 + (k + 1) / (l.length:Int))) (by omega) (by omega),
        W_id (n:=(k + 1) * 7919 % 10007 + g % 1048576 / (1 + (k + 1) / (l.length:Int))) (by omega) (by omega),Int.tmod_eq_emod_of_nonneg (by omega)]
      refine ⟨by omega,⟨m1,m2⟩,⟨by decide,by decide,by decide⟩,by omega,by omega,by omega,?_⟩
      show MOut.mk _ _ _ = _
      unfold rnS rnX
      rw [if_pos hl,hg]
    · simp only [gt_iff_lt,decide_eq_false_iff_not] at hl
      rw [Int.tmod_eq_emod_of_nonneg (by omega)]
      refine ⟨by omega,?_⟩
      show MOut.mk _ _ _ = _
      unfold rnS rnX
      rw [if_neg hl,Int.add_zero])
def L_NewRing:Lay:={ slots:=[(0,.val tIs)] }
theorem T_NewRing (l:List Int):mTree (P:=P) [] (lpOf []) Tryz.f12 L_NewRing true (l,()) =
  Tree.leaf { res:=SV.ptr (nat_lit 100) (0:Nat),boxes:=[],news:=[Ob.box [SV.sl tI l,SV.int IntKind.i64 (0:Int)]] }:=by kernel_rfl
def c_NewRing:MC P:=MC.of (α:=List Int × Unit) 12 L_NewRing (fun x => x) (fun x => x) (fun _ => rfl)
  (fun _ => none)
  (fun (l,_) => ⟨.ptr 100 0,[],[.box [.sl tI l,.int .i64 0]]⟩) (by kernel_rfl) (by kernel_rfl) (by kernel_rfl) (by
    rintro ⟨l,⟨⟩⟩ hp
    refine m_of hm (own:=true) (by kernel_rfl) (by kernel_rfl) (by kernel_rfl) (T_NewRing l) trivial ?_
    exact rfl)
theorem take_step {α:Type} (d:α) {l:List α} {i:Int} (h0:0 ≤ i) (h:i < l.length):l.take i.toNat ++ [l.getD i.toNat d] = l.take (i + 1).toNat:=by
  have h1:i.toNat < l.length:=by omega
  rw [show (i + 1).toNat = i.toNat + 1 by omega,List.take_add_one,List.getD_eq_getElem?_getD,List.getElem?_eq_getElem h1]
  rfl
def L_rCopy0:Lay:={ slots:=[(1,.ptr 2040 0),(2,.ptr 3040 0),(3,.ptr 4040 0),(4,.val tI)],boxes:=[(2040,[.val tI,.val tI,.val tI,.val tI,.val tI,.val (.sl (.pair tI tV)),.val (.sl tIs),.val tI,.val (.sl (.pair tI (.pair tI (.pair tI .bool)))),.val tI]),(3040,[.val tI,.val tI,.val tI,.val tI,.val tI,.val (.sl (.pair tI tV)),.val (.sl tIs),.val tI,.val (.sl (.pair tI (.pair tI (.pair tI .bool)))),.val tI]),(4040,[.row 47 (.pair tI tV),.row 31 tIs,.val tI])] }
def L_rCopy0_0:Lay:={ slots:=[(1,.ptr 2040 0),(2,.ptr 3040 0),(3,.ptr 4040 0)],boxes:=[(2040,[.val tI,.val tI,.val tI,.val tI,.val tI,.val (.sl (.pair tI tV)),.val (.sl tIs),.val tI,.val (.sl (.pair tI (.pair tI (.pair tI .bool)))),.val tI]),(3040,[.val tI,.val tI,.val tI,.val tI,.val tI,.val (.sl (.pair tI tV)),.val (.sl tIs),.val tI,.val (.sl (.pair tI (.pair tI (.pair tI .bool)))),.val tI]),(4040,[.row 47 (.pair tI tV),.row 31 tIs,.val tI])] }
def X_rCopy0:Exit → St → Option Lay
  | .exit 0,_ => some L_rCopy0_0
  | _,_ => none
abbrev C_rCopy0:Code:=loopC (bodyOf Tryz.f15) 0
theorem B_rCopy0 (i b1_0 b1_1 b1_2 b1_3 b1_4:Int) (b1_5:List (Int × V)) (envs:List (List Int)) (b1_7:Int) (b1_8:List (Int × (Int × (Int × Bool)))) (b1_9 b2_0 b2_1 b2_2 b2_3 b2_4:Int) (b2_5:List (Int × V)) (b2_6:List (List Int)) (b2_7:Int) (b2_8:List (Int × (Int × (Int × Bool)))) (b2_9:Int) (els:List (Int × V)) (out:List (List Int)) (b3_2:Int):loopBodyA (P:=P) [] (lpOf []) [] 40 noU (inner C_rCopy0) L_rCopy0 X_rCopy0 (α:=Unit × Unit × Unit × Int × Int × Int × Int × Int × Int × List (Int × V) × List (List Int) × Int × List (Int × (Int × (Int × Bool))) × Int × Int × Int × Int × Int × Int × List (Int × V) × List (List Int) × Int × List (Int × (Int × (Int × Bool))) × Int × List (Int × V) × List (List Int) × Int × Unit) (fun x => x) (fun x => x) ((),(),(),i,b1_0,b1_1,b1_2,b1_3,b1_4,b1_5,envs,b1_7,b1_8,b1_9,b2_0,b2_1,b2_2,b2_3,b2_4,b2_5,b2_6,b2_7,b2_8,b2_9,els,out,b3_2,()) =
  Tree.cond (decide (i < (envs.length:Int))) (.need ((0:Int) ≤ i ∧ i < (envs.length:Int)) (.need (List.length (List.getD envs (Int.toNat i) []) * (8:Nat) ≤ (140737488355328:Nat)) (.need ((List.length out + List.length [List.getD envs (Int.toNat i) []]) * (24:Nat) ≤ (140737488355328:Nat)) (.leaf (Sum.inl ((),(),(),IntKind.i64.wrap (i + (1:Int)),b1_0,b1_1,b1_2,b1_3,b1_4,b1_5,envs,b1_7,b1_8,b1_9,b2_0,b2_1,b2_2,b2_3,b2_4,b2_5,b2_6,b2_7,b2_8,b2_9,els,out ++ [List.getD envs (Int.toNat i) []],b3_2,())))))) (.leaf (Sum.inr (Exit.exit (0:Nat),Lay.st L_rCopy0_0 noU ((),(),(),b1_0,b1_1,b1_2,b1_3,b1_4,b1_5,envs,b1_7,b1_8,b1_9,b2_0,b2_1,b2_2,b2_3,b2_4,b2_5,b2_6,b2_7,b2_8,b2_9,els,out,b3_2,())))):=by kernel_rfl
def inv_rCopy0:Unit × Unit × Unit × Int × Int × Int × Int × Int × Int × List (Int × V) × List (List Int) × Int × List (Int × (Int × (Int × Bool))) × Int × Int × Int × Int × Int × Int × List (Int × V) × List (List Int) × Int × List (Int × (Int × (Int × Bool))) × Int × List (Int × V) × List (List Int) × Int × Unit → Prop:=fun ((),(),(),i,b1_0,b1_1,b1_2,b1_3,b1_4,b1_5,envs,b1_7,b1_8,b1_9,b2_0,b2_1,b2_2,b2_3,b2_4,b2_5,b2_6,b2_7,b2_8,b2_9,els,out,b3_2,()) => 0 ≤ i ∧ i ≤ envs.length ∧ (envs.length ≤ 1000 ∧ ∀ q ∈ envs,q.length ≤ 1000) ∧ out = envs.take i.toNat
def O_rCopy0:Unit × Unit × Unit × Int × Int × Int × Int × Int × Int × List (Int × V) × List (List Int) × Int × List (Int × (Int × (Int × Bool))) × Int × Int × Int × Int × Int × Int × List (Int × V) × List (List Int) × Int × List (Int × (Int × (Int × Bool))) × Int × List (Int × V) × List (List Int) × Int × Unit → Tree (Exit × St):=fun ((),(),(),i,b1_0,b1_1,b1_2,b1_3,b1_4,b1_5,envs,b1_7,b1_8,b1_9,b2_0,b2_1,b2_2,b2_3,b2_4,b2_5,b2_6,b2_7,b2_8,b2_9,els,out,b3_2,()) => (.leaf (.exit 0,L_rCopy0_0.st noU ((),(),(),b1_0,b1_1,b1_2,b1_3,b1_4,b1_5,envs,b1_7,b1_8,b1_9,b2_0,b2_1,b2_2,b2_3,b2_4,b2_5,b2_6,b2_7,b2_8,b2_9,els,(envs),b3_2,())))
def R_rCopy0:LRun:=runOf 40 L_rCopy0 (fun x => x) (inv_rCopy0) (O_rCopy0)
theorem K_rCopy0:LoopOk P [] 40 none noU C_rCopy0 (R_rCopy0):=by
  refine loop_of hm (cx:=[]) [] (xl:=X_rCopy0) (α:=Unit × Unit × Unit × Int × Int × Int × Int × Int × Int × List (Int × V) × List (List Int) × Int × List (Int × (Int × (Int × Bool))) × Int × Int × Int × Int × Int × Int × List (Int × V) × List (List Int) × Int × List (Int × (Int × (Int × Bool))) × Int × List (Int × V) × List (List Int) × Int × Unit) (fun x => x) (fun ((),(),(),i,b1_0,b1_1,b1_2,b1_3,b1_4,b1_5,envs,b1_7,b1_8,b1_9,b2_0,b2_1,b2_2,b2_3,b2_4,b2_5,b2_6,b2_7,b2_8,b2_9,els,out,b3_2,()) => ((envs.length:Int) - i).toNat) (fun _ => rfl) (by kernel_rfl) (by kernel_rfl) ?_ (by kernel_rfl) trivial ?_
  · intro e S L' h
    unfold X_rCopy0 at h
    split at h <;> first | (cases h; done) | (cases h; kernel_rfl) | (rcases bif_some h with h | h <;> cases h <;> kernel_rfl)
  · rintro ⟨⟨⟩,⟨⟩,⟨⟩,i,b1_0,b1_1,b1_2,b1_3,b1_4,b1_5,envs,b1_7,b1_8,b1_9,b2_0,b2_1,b2_2,b2_3,b2_4,b2_5,b2_6,b2_7,b2_8,b2_9,els,out,b3_2,⟨⟩⟩ hinv Q hQ
    refine hold_of_eq (B_rCopy0 i b1_0 b1_1 b1_2 b1_3 b1_4 b1_5 envs b1_7 b1_8 b1_9 b2_0 b2_1 b2_2 b2_3 b2_4 b2_5 b2_6 b2_7 b2_8 b2_9 els out b3_2) ?_
    obtain ⟨h0,h1,⟨h2,h3⟩,rfl⟩:=hinv
    rw [W_id (n:=i + 1) (by omega) (by omega)]
    refine ⟨fun c1 => ?_,fun c1 => ?_⟩
    · have c1:=of_decide_eq_true c1
      have h4:=h3 _ (getD_mem (d:=([] : List Int)) (show i.toNat < envs.length by omega))
      refine ⟨⟨h0,c1⟩,by omega,?_,⟨⟨by omega,by omega,⟨h2,h3⟩,take_step [] h0 c1⟩,by show ((envs.length:Int) - (i + 1)).toNat < ((envs.length:Int) - i).toNat; omega⟩,hQ⟩
      rw [List.length_take,List.length_singleton]; omega
    · have c1:=of_decide_eq_false c1
      have e:envs.take i.toNat = envs:=List.take_of_length_le (by omega)
      rw [e]
      exact hQ
def L_HasInt0:Lay:={ slots:=[(0,.val tIs),(1,.val tI),(5,.val tI)] }
def L_HasInt0_0:Lay:={ slots:=[(4,.val .bool)] }
def L_HasInt0_1:Lay:={ slots:=[] }
def X_HasInt0:Exit → St → Option Lay
  | .ret,_ => some L_HasInt0_0
  | .exit 0,_ => some L_HasInt0_1
  | _,_ => none
abbrev C_HasInt0:Code:=loopC (bodyOf Tryz.f38) 0
theorem B_HasInt0 (l:List Int) (n i:Int):loopBodyA (P:=P) [] (lpOf []) [] 18 noU (inner C_HasInt0) L_HasInt0 X_HasInt0 (α:=List Int × Int × Int × Unit) (fun x => x) (fun x => x) (l,n,i,()) =
  Tree.cond (decide (i < (l.length:Int))) (.need ((0:Int) ≤ i ∧ i < (l.length:Int)) (.cond (List.getD l (Int.toNat i) (0:Int) == n) (.leaf (Sum.inr (Exit.ret,Lay.st L_HasInt0_0 noU (true,())))) (.leaf (Sum.inl (l,n,IntKind.i64.wrap (i + (1:Int)),()))))) (.leaf (Sum.inr (Exit.exit (0:Nat),Lay.st L_HasInt0_1 noU ()))):=by kernel_rfl
def inv_HasInt0:List Int × Int × Int × Unit → Prop:=fun (l,n,i,()) => 0 ≤ i ∧ i ≤ l.length ∧ l.length ≤ 1000
def O_HasInt0:List Int × Int × Int × Unit → Tree (Exit × St):=fun (l,n,i,()) => .cond ((l.drop i.toNat).any fun y => y == n) (.leaf (.ret,L_HasInt0_0.st noU ((true),()))) (.leaf (.exit 0,L_HasInt0_1.st noU ()))
def R_HasInt0:LRun:=runOf 18 L_HasInt0 (fun x => x) (inv_HasInt0) (O_HasInt0)
theorem K_HasInt0:LoopOk P [] 18 none noU C_HasInt0 (R_HasInt0):=by
  refine loop_of hm (cx:=[]) [] (xl:=X_HasInt0) (α:=List Int × Int × Int × Unit) (fun x => x) (fun (l,n,i,()) => ((l.length:Int) - i).toNat) (fun _ => rfl) (by kernel_rfl) (by kernel_rfl) ?_ (by kernel_rfl) trivial ?_
  · intro e S L' h
    unfold X_HasInt0 at h
    split at h <;> first | (cases h; done) | (cases h; kernel_rfl) | (rcases bif_some h with h | h <;> cases h <;> kernel_rfl)
  · rintro ⟨l,n,i,⟨⟩⟩ hinv Q hQ
    refine hold_of_eq (B_HasInt0 l n i) ?_
    obtain ⟨h0,h1,h2⟩:=hinv
    rw [W_id (n:=i + 1) (by omega) (by omega)]
    unfold O_HasInt0 at hQ
    dsimp only at hQ
    refine ⟨fun d1 => ?_,fun d1 => ?_⟩
    · have d1:=of_decide_eq_true d1
      rw [drop_step 0 h0 d1,List.any_cons] at hQ
      refine ⟨⟨h0,d1⟩,fun d2 => ?_,fun d2 => ?_⟩
      · rw [d2,Bool.true_or] at hQ
        exact hQ.1 rfl
      · rw [d2,Bool.false_or] at hQ
        exact ⟨⟨⟨by omega,by omega,h2⟩,by show ((l.length:Int) - (i + 1)).toNat < ((l.length:Int) - i).toNat; omega⟩,hQ⟩
    · have d1:=of_decide_eq_false d1
      rw [drop_end d1] at hQ
      exact hQ.2 rfl
theorem T_HasInt (l:List Int) (n:Int):fnTree (P:=P) [] (lpOf [(0,R_HasInt0)]) Tryz.f38 (encL 0 [.val tIs,.val tI] (l,n,())) =
  Tree.need (inv_HasInt0 (l,n,(0:Int),())) (.cond (List.any (List.drop (Int.toNat (0:Int)) l) fun y => y == n) (.leaf (SV.bool true)) (.leaf (SV.bool false))):=by kernel_rfl
def c_HasInt:PC P:=PC.of (α:=List Int × Int × Unit) 38 [.val tIs,.val tI] (fun x => x) (fun x => x) (fun _ => rfl)
  (fun x => some (x.1.length ≤ 1000))
  (fun x => .bool (x.1.any fun y => y == x.2.1)) (by kernel_rfl) (by
    rintro ⟨l,n,⟨⟩⟩ hp
    refine fn_of hm (by kernel_rfl) (by kernel_rfl) (T_HasInt l n) ⟨K_HasInt0,trivial⟩ ?_
    try dsimp only at hp
    try dsimp only
    have h1:l.length ≤ 1000:=hp
    have fin:∀ k:Bool,(l.any fun y => y == n) = k → SV.bool k = SV.bool (l.any fun y => y == n):=fun k h => by rw [h]
    exact ⟨⟨by decide,by omega,h1⟩,fun d1 => fin _ d1,fun d1 => fin _ d1⟩)
end
end Go.MB
