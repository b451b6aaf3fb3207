/- Elements and houses: what is valid. -/
import Derived.Test.YtfhomgggbhjglaaMbA
namespace Go.MB
open Go Go.Sx Go.Proofs
set_option linter.unusedVariables false
set_option linter.unusedSimpArgs false
noncomputable section
theorem T_checkEl (e_0 e_1 e_2 e_3:Int):fnTree (P:=P) [c_within.gc] (lpOf []) Try.f58 (encL 0 [.agg (.pair tI tV)] ((e_0,(e_1,(e_2,e_3))),())) =
  Tree.cond (decide (e_0 < (0:Int))) (.leaf (SV.int IntKind.i64 (4:Int))) (.cond (decide (e_0 > (3:Int))) (.leaf (SV.int IntKind.i64 (4:Int))) (.cond (!wi e_1 (0:Int) (68719476736:Int)) (.leaf (SV.int IntKind.i64 (2:Int))) (.cond (!wi e_2 (0:Int) (1099511627776:Int)) (.leaf (SV.int IntKind.i64 (2:Int))) (.cond (!wi e_3 e_2 (2199023255552:Int)) (.leaf (SV.int IntKind.i64 (2:Int))) (.leaf (SV.int IntKind.i64 (0:Int))))))):=by kernel_rfl
def c_checkEl:PC P:=PC.of (α:=(Int × V) × Unit) 58 [.agg (.pair tI tV)] (fun x => x) (fun x => x) (fun _ => rfl)
  (fun _ => none)
  (fun x => .int .i64 (elE x.1)) (by kernel_rfl) (by
    rintro ⟨⟨e_0,⟨e_1,⟨e_2,e_3⟩⟩⟩,⟨⟩⟩ hp
    refine fn_of hm (by kernel_rfl) (by kernel_rfl) (T_checkEl e_0 e_1 e_2 e_3) trivial ?_
    try dsimp only at hp
    try dsimp only
    show Tree.holds (fun s => s = SV.int .i64 (elE (e_0,e_1,e_2,e_3))) _
    have fin:∀ n:Int,elE (e_0,e_1,e_2,e_3) = n → SV.int .i64 n = SV.int .i64 (elE (e_0,e_1,e_2,e_3)):=fun n h => by rw [h]
    unfold elE at fin ⊢
    dsimp only at fin ⊢
    refine ⟨fun c1 => fin _ ?_,fun c1 => ⟨fun c2 => fin _ ?_,fun c2 => ⟨fun c3 => fin _ ?_,fun c3 => ⟨fun c4 => fin _ ?_,fun c4 => ⟨fun c5 => fin _ ?_,fun c5 => fin _ ?_⟩⟩⟩⟩⟩
    all_goals simp only [decide_eq_true_eq,decide_eq_false_iff_not,Bool.not_eq_true',Bool.not_eq_false'] at *
    · rw [if_pos (.inl c1)]
    · rw [if_pos (.inr c2)]
    · rw [if_neg (by omega),if_pos (.inl c3)]
    · rw [if_neg (by omega),if_pos (.inr (.inl c4))]
    · rw [if_neg (by omega),if_pos (.inr (.inr c5))]
    · rw [if_neg (by omega),if_neg (by rw [c3,c4,c5]; simp)])
def hOk (h:Hs):Prop:=h.1.length ≤ 1000 ∧ h.2.1.length ≤ 1000 ∧ ∀ l ∈ h.2.1,l.length ≤ 1000
def L_chh1:Lay:={ slots:=[(1,.ptr 2077 0),(28,.val (.sl (.pair tI tV))),(29,.val tI),(30,.val tI)],boxes:=[(2077,[.val (.sl (.pair tI tV)),.val (.sl tIs),.val tI])] }
def L_chh1_0:Lay:={ slots:=[(2,.val tI)] }
def L_chh1_1:Lay:={ slots:=[(1,.ptr 2077 0)],boxes:=[(2077,[.val (.sl (.pair tI tV)),.val (.sl tIs),.val tI])] }
def X_chh1:Exit → St → Option Lay
  | .ret,_ => some L_chh1_0
  | .exit 1,_ => some L_chh1_1
  | _,_ => none
abbrev C_chh1:Code:=loopC (bodyOf Try.f27) 1
theorem B_chh1 (l:List (Int × V)) (n i:Int) (els:List (Int × V)) (envs:List (List Int)) (need:Int):loopBodyA (P:=P) [c_checkEl.gc] (lpOf []) [] 77 noU (inner C_chh1) L_chh1 X_chh1 (α:=Unit × List (Int × V) × Int × Int × List (Int × V) × List (List Int) × Int × Unit) (fun x => x) (fun x => x) ((),l,n,i,els,envs,need,()) =
  Tree.cond (decide (i < n)) (.need ((0:Int) ≤ i ∧ i < (l.length:Int)) (.cond (elE (List.getD l (Int.toNat i) (0,0,0,0)) != (0:Int)) (.leaf (Sum.inr (Exit.ret,Lay.st L_chh1_0 noU (elE (List.getD l (Int.toNat i) (0,0,0,0)),())))) (.leaf (Sum.inl ((),l,n,IntKind.i64.wrap (i + (1:Int)),els,envs,need,()))))) (.leaf (Sum.inr (Exit.exit (1:Nat),Lay.st L_chh1_1 noU ((),els,envs,need,())))):=by kernel_rfl
def inv_chh1:Unit × List (Int × V) × Int × Int × List (Int × V) × List (List Int) × Int × Unit → Prop:=fun ((),l,n,i,els,envs,need,()) => n = l.length ∧ 0 ≤ i ∧ i ≤ n ∧ l.length ≤ 1000
def O_chh1:Unit × List (Int × V) × Int × Int × List (Int × V) × List (List Int) × Int × Unit → Tree (Exit × St):=fun ((),l,n,i,els,envs,need,()) => .cond (decide (elEs (l.drop i.toNat) = 0)) (.leaf (.exit 1,L_chh1_1.st noU ((),els,envs,need,()))) (.leaf (.ret,L_chh1_0.st noU ((elEs (l.drop i.toNat)),())))
def R_chh1:LRun:=runOf 77 L_chh1 (fun x => x) (inv_chh1) (O_chh1)
theorem K_chh1:LoopOk P [] 77 none noU C_chh1 (R_chh1):=by
  refine loop_of hm (cx:=[c_checkEl.gc]) [] (xl:=X_chh1) (α:=Unit × List (Int × V) × Int × Int × List (Int × V) × List (List Int) × Int × Unit) (fun x => x) (fun ((),l,n,i,els,envs,need,()) => (n - i).toNat) (fun _ => rfl) (by kernel_rfl) (by kernel_rfl) ?_ (by kernel_rfl) trivial ?_
  · intro e S L' h
    unfold X_chh1 at h
    split at h <;> first | (cases h; done) | (cases h; kernel_rfl) | (rcases bif_some h with h | h <;> cases h <;> kernel_rfl)
  · rintro ⟨⟨⟩,l,n,i,els,envs,need,⟨⟩⟩ hinv Q hQ
    refine hold_of_eq (B_chh1 l n i els envs need) ?_
    obtain ⟨rfl,h0,h1,h2⟩:=hinv
    rw [W_id (n:=i + 1) (by omega) (by omega)]
    unfold O_chh1 at hQ
    dsimp only at hQ
    refine ⟨fun c1 => ?_,fun c1 => ?_⟩
    · have c1:=of_decide_eq_true c1
      rw [elEs_step h0 c1] at hQ
      refine ⟨⟨h0,c1⟩,fun c2 => ?_,fun c2 => ?_⟩
      · have c2:elE (l.getD i.toNat (0,0,0,0)) ≠ 0:=by simpa using c2
        rw [if_pos c2] at hQ
        exact hQ.2 (decide_eq_false c2)
      · have c2:elE (l.getD i.toNat (0,0,0,0)) = 0:=by simpa using c2
        rw [if_neg (fun h => h c2)] at hQ
        exact ⟨⟨⟨rfl,by omega,by omega,h2⟩,by show ((l.length:Int) - (i + 1)).toNat < ((l.length:Int) - i).toNat; omega⟩,hQ⟩
    · rw [drop_end (of_decide_eq_false c1)] at hQ
      exact hQ.1 rfl
def L_chh35:Lay:={ slots:=[(1,.ptr 2077 0),(8,.val tI),(41,.val (.sl tIs)),(42,.val tI),(43,.val tI),(50,.val tIs),(51,.val tI),(52,.val tI)],boxes:=[(2077,[.val (.sl (.pair tI tV)),.val (.sl tIs),.val tI])] }
def L_chh35_0:Lay:={ slots:=[(2,.val tI)] }
def L_chh35_1:Lay:={ slots:=[(1,.ptr 2077 0),(41,.val (.sl tIs)),(42,.val tI),(43,.val tI)],boxes:=[(2077,[.val (.sl (.pair tI tV)),.val (.sl tIs),.val tI])] }
def X_chh35:Exit → St → Option Lay
  | .ret,_ => some L_chh35_0
  | .exit 5,_ => some L_chh35_1
  | _,_ => none
abbrev C_chh35:Code:=loopC (inner (loopC (bodyOf Try.f27) 3)) 5
theorem B_chh35 (last:Int) (m:List (List Int)) (n2 k:Int) (q:List Int) (n3 j:Int) (els:List (Int × V)) (envs:List (List Int)) (need:Int):loopBodyA (P:=P) [] (lpOf []) [] 77 noU (inner C_chh35) L_chh35 X_chh35 (α:=Unit × Int × List (List Int) × Int × Int × List Int × Int × Int × List (Int × V) × List (List Int) × Int × Unit) (fun x => x) (fun x => x) ((),last,m,n2,k,q,n3,j,els,envs,need,()) =
  Tree.cond (decide (j < n3)) (.need ((0:Int) ≤ j ∧ j < (q.length:Int)) (.cond (decide (List.getD q (Int.toNat j) (0:Int) ≤ last)) (.leaf (Sum.inr (Exit.ret,Lay.st L_chh35_0 noU ((11:Int),())))) (.cond (decide (List.getD q (Int.toNat j) (0:Int) ≥ (els.length:Int))) (.leaf (Sum.inr (Exit.ret,Lay.st L_chh35_0 noU ((11:Int),())))) (.leaf (Sum.inl ((),List.getD q (Int.toNat j) (0:Int),m,n2,k,q,n3,IntKind.i64.wrap (j + (1:Int)),els,envs,need,())))))) (.leaf (Sum.inr (Exit.exit (5:Nat),Lay.st L_chh35_1 noU ((),m,n2,k,els,envs,need,())))):=by kernel_rfl
def inv_chh35:Unit × Int × List (List Int) × Int × Int × List Int × Int × Int × List (Int × V) × List (List Int) × Int × Unit → Prop:=fun ((),last,m,n2,k,q,n3,j,els,envs,need,()) => n3 = q.length ∧ 0 ≤ j ∧ j ≤ n3 ∧ q.length ≤ 1000
def O_chh35:Unit × Int × List (List Int) × Int × Int × List Int × Int × Int × List (Int × V) × List (List Int) × Int × Unit → Tree (Exit × St):=fun ((),last,m,n2,k,q,n3,j,els,envs,need,()) => .cond (envB els.length last (q.drop j.toNat)) (.leaf (.ret,L_chh35_0.st noU (((11:Int)),()))) (.leaf (.exit 5,L_chh35_1.st noU ((),m,n2,k,els,envs,need,())))
def R_chh35:LRun:=runOf 77 L_chh35 (fun x => x) (inv_chh35) (O_chh35)
theorem K_chh35:LoopOk P [] 77 none noU C_chh35 (R_chh35):=by
  refine loop_of hm (cx:=[]) [] (xl:=X_chh35) (α:=Unit × Int × List (List Int) × Int × Int × List Int × Int × Int × List (Int × V) × List (List Int) × Int × Unit) (fun x => x) (fun ((),last,m,n2,k,q,n3,j,els,envs,need,()) => (n3 - j).toNat) (fun _ => rfl) (by kernel_rfl) (by kernel_rfl) ?_ (by kernel_rfl) trivial ?_
  · intro e S L' h
    unfold X_chh35 at h
    split at h <;> first | (cases h; done) | (cases h; kernel_rfl) | (rcases bif_some h with h | h <;> cases h <;> kernel_rfl)
  · rintro ⟨⟨⟩,last,m,n2,k,q,n3,j,els,envs,need,⟨⟩⟩ hinv Q hQ
    refine hold_of_eq (B_chh35 last m n2 k q n3 j els envs need) ?_
    obtain ⟨rfl,h0,h1,h2⟩:=hinv
    rw [W_id (n:=j + 1) (by omega) (by omega)]
    unfold O_chh35 at hQ
    dsimp only at hQ
    refine ⟨fun c1 => ?_,fun c1 => ?_⟩
    · have c1:=of_decide_eq_true c1
      rw [envB_step h0 c1] at hQ
      refine ⟨⟨h0,c1⟩,fun c2 => ?_,fun c2 => ⟨fun c3 => ?_,fun c3 => ?_⟩⟩
      · exact hQ.1 (by rw [c2,Bool.true_or])
      · have c3:decide (q.getD j.toNat 0 ≥ (els.length:Int)) = true:=c3
        exact hQ.1 (by rw [c3,Bool.true_or,Bool.or_true])
      · have c3:decide (q.getD j.toNat 0 ≥ (els.length:Int)) = false:=c3
        rw [c2,c3,Bool.false_or,Bool.false_or] at hQ
        exact ⟨⟨⟨rfl,by omega,by omega,h2⟩,by show ((q.length:Int) - (j + 1)).toNat < ((q.length:Int) - j).toNat; omega⟩,hQ⟩
    · rw [drop_end (of_decide_eq_false c1)] at hQ
      exact hQ.2 rfl
def L_chh3:Lay:={ slots:=[(1,.ptr 2077 0),(41,.val (.sl tIs)),(42,.val tI),(43,.val tI)],boxes:=[(2077,[.val (.sl (.pair tI tV)),.val (.sl tIs),.val tI])] }
def L_chh3_0:Lay:={ slots:=[(2,.val tI)] }
def L_chh3_1:Lay:={ slots:=[(1,.ptr 2077 0)],boxes:=[(2077,[.val (.sl (.pair tI tV)),.val (.sl tIs),.val tI])] }
def X_chh3:Exit → St → Option Lay
  | .ret,_ => some L_chh3_0
  | .exit 3,_ => some L_chh3_1
  | _,_ => none
abbrev C_chh3:Code:=loopC (bodyOf Try.f27) 3
theorem B_chh3 (m:List (List Int)) (n2 k:Int) (els:List (Int × V)) (envs:List (List Int)) (need:Int):loopBodyA (P:=P) [] (lpOf [(5,R_chh35)]) [] 77 noU (inner C_chh3) L_chh3 X_chh3 (α:=Unit × List (List Int) × Int × Int × List (Int × V) × List (List Int) × Int × Unit) (fun x => x) (fun x => x) ((),m,n2,k,els,envs,need,()) =
  Tree.cond (decide (k < n2)) (.need ((0:Int) ≤ k ∧ k < (m.length:Int)) (.cond ((↑(List.length (List.getD m (Int.toNat k) [])):Int) == (0:Int)) (.leaf (Sum.inr (Exit.ret,Lay.st L_chh3_0 noU ((6:Int),())))) (.need (inv_chh35 ((),(-1:Int),m,n2,k,List.getD m (Int.toNat k) [],(↑(List.length (List.getD m (Int.toNat k) [])):Int),(0:Int),els,envs,need,())) (.cond (envB (els.length:Int) (-1:Int) (List.drop (Int.toNat (0:Int)) (List.getD m (Int.toNat k) []))) (.leaf (Sum.inr (Exit.ret,Lay.st L_chh3_0 noU ((11:Int),())))) (.leaf (Sum.inl ((),m,n2,IntKind.i64.wrap (k + (1:Int)),els,envs,need,()))))))) (.leaf (Sum.inr (Exit.exit (3:Nat),Lay.st L_chh3_1 noU ((),els,envs,need,())))):=by kernel_rfl
def inv_chh3:Unit × List (List Int) × Int × Int × List (Int × V) × List (List Int) × Int × Unit → Prop:=fun ((),m,n2,k,els,envs,need,()) => n2 = m.length ∧ 0 ≤ k ∧ k ≤ n2 ∧ m.length ≤ 1000 ∧ ∀ q ∈ m,q.length ≤ 1000
def O_chh3:Unit × List (List Int) × Int × Int × List (Int × V) × List (List Int) × Int × Unit → Tree (Exit × St):=fun ((),m,n2,k,els,envs,need,()) => .cond (decide (envEs els.length (m.drop k.toNat) = 0)) (.leaf (.exit 3,L_chh3_1.st noU ((),els,envs,need,()))) (.leaf (.ret,L_chh3_0.st noU ((envEs els.length (m.drop k.toNat)),())))
def R_chh3:LRun:=runOf 77 L_chh3 (fun x => x) (inv_chh3) (O_chh3)
theorem K_chh3:LoopOk P [] 77 none noU C_chh3 (R_chh3):=by
  refine loop_of hm (cx:=[]) [(5,R_chh35)] (xl:=X_chh3) (α:=Unit × List (List Int) × Int × Int × List (Int × V) × List (List Int) × Int × Unit) (fun x => x) (fun ((),m,n2,k,els,envs,need,()) => (n2 - k).toNat) (fun _ => rfl) (by kernel_rfl) (by kernel_rfl) ?_ (by kernel_rfl) ⟨K_chh35,trivial⟩ ?_
  · intro e S L' h
    unfold X_chh3 at h
    split at h <;> first | (cases h; done) | (cases h; kernel_rfl) | (rcases bif_some h with h | h <;> cases h <;> kernel_rfl)
  · rintro ⟨⟨⟩,m,n2,k,els,envs,need,⟨⟩⟩ hinv Q hQ
    refine hold_of_eq (B_chh3 m n2 k els envs need) ?_
    obtain ⟨rfl,h0,h1,h2,h3⟩:=hinv
    rw [W_id (n:=k + 1) (by omega) (by omega)]
    unfold O_chh3 at hQ
    dsimp only at hQ
    refine ⟨fun c1 => ?_,fun c1 => ?_⟩
    · have c1:=of_decide_eq_true c1
      have hm:=h3 _ (getD_mem (d:=([] : List Int)) (show k.toNat < m.length by omega))
      rw [envEs_step h0 c1] at hQ
      generalize m.getD k.toNat [] = q at *
      refine ⟨⟨h0,c1⟩,fun c2 => ?_,fun c2 => ⟨⟨rfl,by decide,by omega,hm⟩,fun c3 => ?_,fun c3 => ?_⟩⟩
      · have z:(q.length:Int) = 0:=by simpa using c2
        have e:envE els.length q = 6:=by unfold envE; rw [if_pos (by omega)]
        rw [e,if_pos (by decide)] at hQ
        exact hQ.2 (by decide)
      all_goals
        have c2:q.length ≠ 0:=by
          have:(q.length:Int) ≠ 0:=by simpa using c2
          omega
      · have c3:envB els.length (-1) q = true:=c3
        have e:envE els.length q = 11:=by unfold envE; rw [if_neg c2,if_pos c3]
        rw [e,if_pos (by decide)] at hQ
        exact hQ.2 (by decide)
      · have c3:envB els.length (-1) q = false:=c3
        have e:envE els.length q = 0:=by unfold envE; rw [if_neg c2,if_neg (by rw [c3]; simp)]
        rw [e,if_neg (fun h => h rfl)] at hQ
        exact ⟨⟨⟨rfl,by omega,by omega,h2,h3⟩,by show ((m.length:Int) - (k + 1)).toNat < ((m.length:Int) - k).toNat; omega⟩,hQ⟩
    · rw [drop_end (of_decide_eq_false c1)] at hQ
      exact hQ.1 rfl
theorem T_House (s0_0:List (Int × V)) (s0_1:List (List Int)) (s0_2:Int):fnTree (P:=P) [] (lpOf [(1,R_chh1),(3,R_chh3)]) Try.f27 (encL 0 [.agg (.pair (.sl (.pair tI tV)) (.pair (.sl tIs) tI))] ((s0_0,(s0_1,s0_2)),())) =
  Tree.cond ((s0_0.length:Int) == (0:Int)) (.leaf (SV.int IntKind.i64 (6:Int))) (.cond (decide ((s0_0.length:Int) > (10:Int))) (.leaf (SV.int IntKind.i64 (8:Int))) (.cond (decide ((s0_1.length:Int) > (8:Int))) (.leaf (SV.int IntKind.i64 (8:Int))) (.need (inv_chh1 ((),s0_0,(s0_0.length:Int),(0:Int),s0_0,s0_1,s0_2,())) (.cond (decide (elEs (List.drop (Int.toNat (0:Int)) s0_0) = (0:Int))) (.need (inv_chh3 ((),s0_1,(s0_1.length:Int),(0:Int),s0_0,s0_1,s0_2,())) (.cond (decide (envEs (s0_0.length:Int) (List.drop (Int.toNat (0:Int)) s0_1) = (0:Int))) (.cond (decide (s0_2 < (1:Int))) (.leaf (SV.int IntKind.i64 (2:Int))) (.cond (decide (s0_2 > (3:Int))) (.leaf (SV.int IntKind.i64 (2:Int))) (.leaf (SV.int IntKind.i64 (0:Int))))) (.leaf (SV.int IntKind.i64 (envEs (s0_0.length:Int) (List.drop (Int.toNat (0:Int)) s0_1)))))) (.leaf (SV.int IntKind.i64 (elEs (List.drop (Int.toNat (0:Int)) s0_0)))))))):=by kernel_rfl
def c_House:PC P:=PC.of (α:=(List (Int × V) × (List (List Int) × Int)) × Unit) 27 [.agg (.pair (.sl (.pair tI tV)) (.pair (.sl tIs) tI))] (fun x => x) (fun x => x) (fun _ => rfl)
  (fun x => some (hOk x.1))
  (fun x => .int .i64 (houseE x.1)) (by kernel_rfl) (by
    rintro ⟨⟨s0_0,⟨s0_1,s0_2⟩⟩,⟨⟩⟩ hp
    refine fn_of hm (by kernel_rfl) (by kernel_rfl) (T_House s0_0 s0_1 s0_2) ⟨K_chh1,K_chh3,trivial⟩ ?_
    try dsimp only at hp
    try dsimp only
    obtain ⟨p1,p2,p3⟩ : hOk (s0_0,(s0_1,s0_2)):=hp
    show Tree.holds (fun s => s = SV.int .i64 (houseE (s0_0,(s0_1,s0_2)))) _
    have fin:∀ n:Int,houseE (s0_0,(s0_1,s0_2)) = n → SV.int .i64 n = SV.int .i64 (houseE (s0_0,(s0_1,s0_2))):=fun n h => by rw [h]
    unfold houseE at fin ⊢
    dsimp only at fin p1 p2 p3 ⊢
    refine ⟨fun c1 => fin _ ?_,fun c1 => ⟨fun c2 => fin _ ?_,fun c2 => ⟨fun c3 => fin _ ?_,fun c3 => ⟨⟨rfl,by decide,by omega,p1⟩,fun c4 => ⟨⟨rfl,by decide,by omega,p2,p3⟩,fun c5 => ⟨fun c6 => fin _ ?_,fun c6 => ⟨fun c7 => fin _ ?_,fun c7 => fin _ ?_⟩⟩,fun c5 => fin _ ?_⟩,fun c4 => fin _ ?_⟩⟩⟩⟩
    all_goals simp only [beq_iff_eq,beq_eq_false_iff_ne,decide_eq_true_eq,decide_eq_false_iff_not,Int.toNat_zero,List.drop_zero,ne_eq] at *
    · rw [if_pos (by omega)]
    · rw [if_neg (by omega),if_pos (by omega)]
    · rw [if_neg (by omega),if_pos (by omega)]
    · rw [if_neg (by omega),if_neg (by omega),if_neg (fun h => h c4),if_neg (fun h => h c5),if_pos (.inl c6)]
    · rw [if_neg (by omega),if_neg (by omega),if_neg (fun h => h c4),if_neg (fun h => h c5),if_pos (.inr c7)]
    · rw [if_neg (by omega),if_neg (by omega),if_neg (fun h => h c4),if_neg (fun h => h c5),if_neg (by omega)]
    · rw [if_neg (by omega),if_neg (by omega),if_neg (fun h => h c4),if_pos c5]
    · rw [if_neg (by omega),if_neg (by omega),if_pos c4])
end
end Go.MB
