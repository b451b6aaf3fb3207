/- Strong, and the law PipeBounds. -/
import Derived.Test.YtoockflaeaknbaaGreatMvQ
namespace Go.MP
open Go Go.Sx Go.Proofs
set_option linter.unusedVariables false
set_option linter.unusedSimpArgs false
noncomputable section
theorem tubeP_idx {ks:List K2} {i top:Int}:∀ (n:Nat) (to:Int),∀ q ∈ tubeP ks i top n to,q.1 = i:=by
  intro n
  induction n with
  | zero => intro to q hq; cases hq
  | succ n ih =>
    intro to q hq
    rw [tubeP] at hq
    split at hq
    · cases hq
    · rcases List.mem_cons.1 hq with h | h
      · rw [h]
      · exact ih _ _ h
theorem pcsL_idx {ks:List K2} (l:List Tb):∀ (i to:Int),∀ q ∈ pcsL ks i to l,i ≤ q.1 ∧ q.1 < i + l.length:=by
  induction l with
  | nil => intro i to q hq; rw [pcsL] at hq; cases hq
  | cons t r ih =>
    intro i to q hq
    rw [pcsL] at hq
    rw [List.length_cons]
    rcases List.mem_append.1 hq with h | h
    · have:=tubeP_idx _ _ q h; omega
    · have:=ih _ _ q h; omega
theorem pcsS_idx {l:List Tb} {p:Pth} {q:Pc} (h:q ∈ pcsS l p):0 ≤ q.1 ∧ q.1 < l.length:=by
  unfold pcsS at h
  split at h
  · have:=pcsL_idx l 0 _ q h; omega
  · cases h
def weakH (t:Tb) (h:Hg):Bool:=decide (h.2.1.2 > t.2.2.2.2.2.1) || decide (h.2.2.2 > t.2.2.2.2.2.2.1)
def strL (l:List Tb) (a:List Hg):List Pc → Int → Bool
  | [],_ => true
  | q :: r,i => !weakH (pcT l q) (a.getD i.toNat (0,(0,0),(0,0))) && strL l a r (i + 1)
def wkI (l:List Tb) (a:List Hg):List Pc → Int → Int
  | [],_ => -1
  | q :: r,i => if weakH (pcT l q) (a.getD i.toNat (0,(0,0),(0,0))) = true then i else wkI l a r (i + 1)
theorem strL_step {l:List Tb} {a:List Hg} {m:List Pc} {i:Int} (h0:0 ≤ i) (h:i < m.length):strL l a (m.drop i.toNat) i = (!weakH (pcT l (m.getD i.toNat (0,0,0,0))) (a.getD i.toNat (0,(0,0),(0,0))) && strL l a (m.drop (i + 1).toNat) (i + 1)):=by
  rw [drop_step (0,0,0,0) h0 h]; rfl
theorem wkI_step {l:List Tb} {a:List Hg} {m:List Pc} {i:Int} (h0:0 ≤ i) (h:i < m.length):wkI l a (m.drop i.toNat) i = if weakH (pcT l (m.getD i.toNat (0,0,0,0))) (a.getD i.toNat (0,(0,0),(0,0))) = true then i else wkI l a (m.drop (i + 1).toNat) (i + 1):=by
  rw [drop_step (0,0,0,0) h0 h]; rfl
def strongS (l:List Tb) (p:Pth) (c:Cs):Bool × Int × Int :=
  if (loadsS l p c).2.2 ≠ 0 then (false,0,(loadsS l p c).2.2)
  else (strL l (loadsS l p c).1 (pcsS l p) 0,if strL l (loadsS l p c).1 (pcsS l p) 0 = true then -1 else wkI l (loadsS l p c).1 (pcsS l p) 0,0)
theorem loads_ok0 {l:List Tb} {p:Pth} {c:Cs} (he:(loadsS l p c).2.2 = 0):(loadsS l p c).1.length = (pcsS l p).length ∧ (pcsS l p).length ≤ 160:=by
  unfold loadsS at *
  split at he
  · rename_i h; exact absurd he h
  rename_i a1
  split at he
  · rename_i h; exact absurd he h
  rename_i a2
  split at he
  · rename_i a3
    rw [if_neg a1,if_neg a2,if_pos a3]
    exact ⟨(runS_len _ _ _ _ _ _ a3).1,pcsS_few (by simpa using a1)⟩
  · cases he
def L_StrongL:Lay:={ slots:=[(3,.ptr 4063 0),(9,.val (.sl (.pair tI (.pair tPart tPart)))),(28,.val (.sl (.pair tI tV))),(29,.val tI),(30,.val tI)],boxes:=[(4063,[.val tTs])] }
def L_StrongL_0:Lay:={ slots:=[(6,.val .bool),(7,.val tI),(8,.val tI)] }
def L_StrongL_1:Lay:={ slots:=[] }
def X_StrongL:Exit → St → Option Lay
  | .ret,_ => some L_StrongL_0
  | .exit 0,_ => some L_StrongL_1
  | _,_ => none
abbrev C_StrongL:Code:=loopC (bodyOf Tryz.f19) 0
theorem B_StrongL (a:List (Int × ((Int × Int) × (Int × Int)))) (m:List (Int × V)) (n i:Int) (l:List Tb):loopBodyA (P:=P) [] (lpOf []) [] 63 noU (inner C_StrongL) L_StrongL X_StrongL (α:=Unit × List (Int × ((Int × Int) × (Int × Int))) × List (Int × V) × Int × Int × List Tb × Unit) (fun x => x) (fun x => x) ((),a,m,n,i,l,()) =
  Tree.cond (decide (i < n)) (.need ((0:Int) ≤ i ∧ i < (m.length:Int)) (.need ((0:Int) ≤ (List.getD m (Int.toNat i) (0,0,0,0)).fst ∧ (List.getD m (Int.toNat i) (0,0,0,0)).fst < (l.length:Int)) (.need ((0:Int) ≤ i ∧ i < (a.length:Int)) (.cond (decide ((List.getD a (Int.toNat i) (0,(0,0),0,0)).snd.fst.snd > (List.getD l (Int.toNat (List.getD m (Int.toNat i) ((0:Int),(0:Int),(0:Int),(0:Int))).fst) (0,0,0,0,0,0,0,0,0)).snd.snd.snd.snd.snd.fst)) (.leaf (Sum.inr (Exit.ret,Lay.st L_StrongL_0 noU (false,i,(0:Int),())))) (.need ((0:Int) ≤ i ∧ i < (a.length:Int)) (.cond (decide ((List.getD a (Int.toNat i) (0,(0,0),0,0)).snd.snd.snd > (List.getD l (Int.toNat (List.getD m (Int.toNat i) ((0:Int),(0:Int),(0:Int),(0:Int))).fst) (0,0,0,0,0,0,0,0,0)).snd.snd.snd.snd.snd.snd.fst)) (.leaf (Sum.inr (Exit.ret,Lay.st L_StrongL_0 noU (false,i,(0:Int),())))) (.leaf (Sum.inl ((),a,m,n,IntKind.i64.wrap (i + (1:Int)),l,()))))))))) (.leaf (Sum.inr (Exit.exit (0:Nat),Lay.st L_StrongL_1 noU ()))):=by kernel_rfl
def inv_StrongL:Unit × List (Int × ((Int × Int) × (Int × Int))) × List (Int × V) × Int × Int × List Tb × Unit → Prop:=fun ((),a,m,n,i,l,()) => n = m.length ∧ 0 ≤ i ∧ i ≤ n ∧ m.length = a.length ∧ m.length ≤ 160 ∧ ∀ q ∈ m,0 ≤ q.1 ∧ q.1 < l.length
def O_StrongL:Unit × List (Int × ((Int × Int) × (Int × Int))) × List (Int × V) × Int × Int × List Tb × Unit → Tree (Exit × St):=fun ((),a,m,n,i,l,()) => .cond (strL l a (m.drop i.toNat) i) (.leaf (.exit 0,L_StrongL_1.st noU ())) (.leaf (.ret,L_StrongL_0.st noU ((false),(wkI l a (m.drop i.toNat) i),((0:Int)),())))
def R_StrongL:LRun:=runOf 63 L_StrongL (fun x => x) (inv_StrongL) (O_StrongL)
theorem K_StrongL:LoopOk P [] 63 none noU C_StrongL (R_StrongL):=by
  refine loop_of hm (cx:=[]) [] (xl:=X_StrongL) (α:=Unit × List (Int × ((Int × Int) × (Int × Int))) × List (Int × V) × Int × Int × List Tb × Unit) (fun x => x) (fun ((),a,m,n,i,l,()) => (n - i).toNat) (fun _ => rfl) (by kernel_rfl) (by kernel_rfl) ?_ (by kernel_rfl) trivial ?_
  · intro e S L' h
    unfold X_StrongL at h
    split at h <;> first | (cases h; done) | (cases h; kernel_rfl) | (rcases bif_some h with h | h <;> cases h <;> kernel_rfl)
  · rintro ⟨⟨⟩,a,m,n,i,l,⟨⟩⟩ hinv Q hQ
    refine hold_of_eq (B_StrongL a m n i l) ?_
    obtain ⟨rfl,h0,h1,h2,h3,h4⟩:=hinv
    rw [W_id (n:=i + 1) (by omega) (by omega)]
    unfold O_StrongL at hQ
    dsimp only at hQ
    refine ⟨fun c1 => ?_,fun c1 => ?_⟩
    · have c1:=of_decide_eq_true c1
      have hq:=h4 _ (mem_getD (d:=(0,0,0,0)) h0 c1)
      have i1:0 ≤ i ∧ i < (m.length:Int):=⟨h0,c1⟩
      have i2:0 ≤ i ∧ i < (a.length:Int):=by omega
      rw [strL_step h0 c1,wkI_step h0 c1] at hQ
      refine ⟨i1,hq,i2,fun d1 => ?_,fun d1 => ⟨i2,fun d2 => ?_,fun d2 => ?_⟩⟩
      · have w:weakH (pcT l (m.getD i.toNat (0,0,0,0))) (a.getD i.toNat (0,(0,0),(0,0))) = true:=by
          unfold weakH; rw [Bool.or_eq_true]; exact .inl d1
        rw [w,if_pos rfl] at hQ
        exact hQ.2 rfl
      · have w:weakH (pcT l (m.getD i.toNat (0,0,0,0))) (a.getD i.toNat (0,(0,0),(0,0))) = true:=by
          unfold weakH; rw [Bool.or_eq_true]; exact .inr d2
        rw [w,if_pos rfl] at hQ
        exact hQ.2 rfl
      · have w:weakH (pcT l (m.getD i.toNat (0,0,0,0))) (a.getD i.toNat (0,(0,0),(0,0))) = false:=by
          unfold weakH; rw [Bool.or_eq_false_iff]; exact ⟨d1,d2⟩
        rw [w,if_neg (show ¬ (false = true) by decide)] at hQ
        exact ⟨⟨⟨rfl,by omega,by omega,h2,h3,h4⟩,by show ((m.length:Int) - (i + 1)).toNat < ((m.length:Int) - i).toNat; omega⟩,hQ⟩
    · have c1:=of_decide_eq_false c1
      rw [drop_end c1] at hQ
      exact hQ.1 rfl
theorem T_Strong (l_0:List Tb) (p_0 p_1 p_2:Int) (p_3:List V) (c_0 c_1 c_2 c_3 c_4:Int):fnTree (P:=P) [c_loads.gc,c_Pieces.gc] (lpOf [(0,R_StrongL)]) Tryz.f19 (encL 0 [.agg tTs,.agg (.pair tV tVs),.agg (.pair tI (.pair tI (.pair tPart tI)))] (l_0,((p_0,(p_1,p_2)),p_3),(c_0,(c_1,((c_2,c_3),c_4))),())) =
  Tree.need ((l_0.length:Int) < (2:Int) ^ (62:Nat)) (.cond ((loadsS l_0 ((p_0,p_1,p_2),p_3) (c_0,c_1,(c_2,c_3),c_4)).snd.snd != (0:Int)) (.leaf (SV.tup [SV.bool false,SV.int IntKind.i64 (0:Int),SV.int IntKind.i64 (loadsS l_0 ((p_0,p_1,p_2),p_3) (c_0,c_1,(c_2,c_3),c_4)).snd.snd])) (.need ((l_0.length:Int) < (2:Int) ^ (62:Nat)) (.need (inv_StrongL ((),(loadsS l_0 ((p_0,p_1,p_2),p_3) (c_0,c_1,(c_2,c_3),c_4)).fst,pcsS l_0 ((p_0,p_1,p_2),p_3),(↑(List.length (pcsS l_0 ((p_0,p_1,p_2),p_3))):Int),(0:Int),l_0,())) (.cond (strL l_0 (loadsS l_0 ((p_0,p_1,p_2),p_3) (c_0,c_1,(c_2,c_3),c_4)).fst (List.drop (Int.toNat (0:Int)) (pcsS l_0 ((p_0,p_1,p_2),p_3))) (0:Int)) (.leaf (SV.tup [SV.bool true,SV.int IntKind.i64 (-1:Int),SV.int IntKind.i64 (0:Int)])) (.leaf (SV.tup [SV.bool false,SV.int IntKind.i64 (wkI l_0 (loadsS l_0 ((p_0,p_1,p_2),p_3) (c_0,c_1,(c_2,c_3),c_4)).fst (List.drop (Int.toNat (0:Int)) (pcsS l_0 ((p_0,p_1,p_2),p_3))) (0:Int)),SV.int IntKind.i64 (0:Int)])))))):=by kernel_rfl
def c_Strong:PC P:=PC.of (α:=List Tb × (V × List V) × (Int × (Int × ((Int × Int) × Int))) × Unit) 19 [.agg tTs,.agg (.pair tV tVs),.agg (.pair tI (.pair tI (.pair tPart tI)))] (fun x => x) (fun x => x) (fun _ => rfl)
  (fun x => some ((x.1.length:Int) < 2 ^ 62))
  (fun x => .tup [.bool (strongS x.1 x.2.1 x.2.2.1).1,.int .i64 (strongS x.1 x.2.1 x.2.2.1).2.1,.int .i64 (strongS x.1 x.2.1 x.2.2.1).2.2]) (by kernel_rfl) (by
    rintro ⟨l_0,⟨⟨p_0,⟨p_1,p_2⟩⟩,p_3⟩,⟨c_0,⟨c_1,⟨⟨c_2,c_3⟩,c_4⟩⟩⟩,⟨⟩⟩ hp
    refine fn_of hm (by kernel_rfl) (by kernel_rfl) (T_Strong l_0 p_0 p_1 p_2 p_3 c_0 c_1 c_2 c_3 c_4) ⟨K_StrongL,trivial⟩ ?_
    try dsimp only at hp
    try dsimp only
    have h62:(l_0.length:Int) < 2 ^ 62:=hp
    show Tree.holds (fun s => s = SV.tup [.bool (strongS l_0 ((p_0,p_1,p_2),p_3) (c_0,c_1,(c_2,c_3),c_4)).1,.int .i64 (strongS l_0 ((p_0,p_1,p_2),p_3) (c_0,c_1,(c_2,c_3),c_4)).2.1,.int .i64 (strongS l_0 ((p_0,p_1,p_2),p_3) (c_0,c_1,(c_2,c_3),c_4)).2.2]) _
    unfold strongS
    generalize (c_0,c_1,(c_2,c_3),c_4) = C
    generalize ((p_0,p_1,p_2),p_3) = P
    refine ⟨h62,fun d1 => ?_,fun d1 => ⟨h62,?_,fun d2 => ?_,fun d2 => ?_⟩⟩
    · rw [if_pos (show (loadsS l_0 P C).2.2 ≠ 0 by simpa using d1)]; exact rfl
    · have e:(loadsS l_0 P C).2.2 = 0:=by simpa using d1
      obtain ⟨q1,q2⟩:=loads_ok0 e
      exact ⟨rfl,by decide,by omega,q1.symm,q2,fun q hq => pcsS_idx hq⟩
    · have e:(loadsS l_0 P C).2.2 = 0:=by simpa using d1
      have d2:strL l_0 (loadsS l_0 P C).1 (pcsS l_0 P) 0 = true:=d2
      rw [if_neg (fun h => h e),d2,if_pos rfl]; exact rfl
    · have e:(loadsS l_0 P C).2.2 = 0:=by simpa using d1
      have d2:strL l_0 (loadsS l_0 P C).1 (pcsS l_0 P) 0 = false:=d2
      rw [if_neg (fun h => h e),d2,if_neg (show ¬ (false = true) by decide)]; exact rfl)
end
end Go.MP
