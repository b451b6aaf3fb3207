/- Rams: the bans that keep a ram from joints, of the program and of the reference. -/
import Derived.Test.YtdoobpeacbcohaaMxAe
import Derived.Test.YtdoobpeacbcohaaMxAi
import Derived.Test.YtdoobpeacbcohaaMvR
namespace Go.MR
open Go Go.Sx Go.Proofs
open Go.MP (c_Near c_TCheck nearS checkT tT tTs Tb)
set_option linter.unusedVariables false
set_option linter.unusedSimpArgs false
noncomputable section
def mkB (hoist ram lo hi a b:Int):Ban:=if ram < hoist then (ram,lo,hi,hoist,a,b) else (hoist,a,b,ram,lo,hi)
def nrS (f s n:Int) (l:List Tb) (h:Int):Bool:=nearS l (f - h * s - n) (f - h * s + n)
def ramE (x:Int × Int × Int) (l:List Tb) (hoist places ram:Int) (c:Int × Int):Int :=
  if checkT l ≠ 0 then checkT l
  else if x.1 < 0 ∨ x.1 > 1048576 ∨ x.2.1 < 1 ∨ x.2.1 > 4000 ∨ x.2.2 < 0 ∨ x.2.2 > 100 then 2
  else if hoist < 0 ∨ hoist ≥ 4 ∨ ram < 0 ∨ ram ≥ 4 ∨ hoist = ram then 11
  else if places < 2 ∨ places > 8 ∨ c.1 < 0 ∨ c.1 > c.2 ∨ c.2 > 7 then 2
  else 0
def shearS (x:Int × Int × Int) (l:List Tb) (hoist places ram:Int) (c:Int × Int):List Ban :=
  if ramE x l hoist places ram c ≠ 0 then [] else shP (nrS x.1 x.2.1 x.2.2 l) (mkB hoist ram c.1 c.2) places (places + 1).toNat 0 (-1) []
theorem wi_yes {n a b:Int} (h:wi n a b = true):a ≤ n ∧ n ≤ b:=by
  unfold wi at h
  rw [Bool.and_eq_true,decide_eq_true_eq,decide_eq_true_eq] at h
  exact h
theorem wi_no {n a b:Int} (h:wi n a b = false):n < a ∨ b < n:=by
  by_cases c:a ≤ n ∧ n ≤ b
  · unfold wi at h
    rw [decide_eq_true c.1,decide_eq_true c.2] at h
    cases h
  · omega
theorem leS_n2b (e:Int):LeS (.tup [.nils,.int .i64 e]) (.tup [.sl tBan [],.int .i64 e]):=by simp [LeS,LeL]
theorem leS_t2b (l:List Ban) (e:Int):LeS (.tup [.sl tBan l,.int .i64 e]) (.tup [.sl tBan l,.int .i64 e]):=by simp [LeS,LeL]
def L_shear:Lay:={ slots:=[(2,.val tI),(3,.val tI),(4,.val tI),(6,.ptr 7160 0),(7,.ptr 8160 0),(11,.ptr 12160 0),(15,.row 63 (.pair tI (.pair tI (.pair tI tV)))),(16,.val tI),(91,.val tI),(92,.val tI)],boxes:=[(7160,[.val tI,.val tI,.val tI]),(8160,[.val tTs]),(12160,[.val tI,.val tI])] }
def L_shear_0:Lay:={ slots:=[(15,.row 63 (.pair tI (.pair tI (.pair tI tV))))] }
def X_shear:Exit → St → Option Lay
  | .exit 1,_ => some L_shear_0
  | _,_ => none
abbrev C_shear:Code:=loopC (bodyOf Try.f6) 1
theorem B_shear (hoist places ram:Int) (out:List (Int × (Int × (Int × V)))) (a N h f st nr:Int) (l:List Tb) (lo hi:Int):loopBodyA (P:=P) [c_Near.gc] (lpOf []) [] 160 noU (inner C_shear) L_shear X_shear (α:=Int × Int × Int × Unit × Unit × Unit × List (Int × (Int × (Int × V))) × Int × Int × Int × Int × Int × Int × List Tb × Int × Int × Unit) (fun x => x) (fun x => x) (hoist,places,ram,(),(),(),out,a,N,h,f,st,nr,l,lo,hi,()) =
  Tree.cond (decide (h < N)) (.cond (decide (h < places)) (.need ((l.length:Int) < (2:Int) ^ (62:Nat)) (.cond (nearS l (IntKind.i64.wrap (IntKind.i64.wrap (f - IntKind.i64.wrap (h * st)) - nr)) (IntKind.i64.wrap (IntKind.i64.wrap (f - IntKind.i64.wrap (h * st)) + nr))) (.cond (decide (a < (0:Int))) (.leaf (Sum.inl (hoist,places,ram,(),(),(),out,h,N,IntKind.i64.wrap (h + (1:Int)),f,st,nr,l,lo,hi,()))) (.cond (!nearS l (IntKind.i64.wrap (IntKind.i64.wrap (f - IntKind.i64.wrap (h * st)) - nr)) (IntKind.i64.wrap (IntKind.i64.wrap (f - IntKind.i64.wrap (h * st)) + nr))) (.cond (decide (a ≥ (0:Int))) (.cond (decide (ram < hoist)) (.need ((List.length out + List.length [(ram,lo,hi,hoist,a,IntKind.i64.wrap (h - (1:Int)))]) * (48:Nat) ≤ (140737488355328:Nat)) (.leaf (Sum.inl (hoist,places,ram,(),(),(),out ++ [(ram,lo,hi,hoist,a,IntKind.i64.wrap (h - (1:Int)))],(-1:Int),N,IntKind.i64.wrap (h + (1:Int)),f,st,nr,l,lo,hi,())))) (.need ((List.length out + List.length [(hoist,a,IntKind.i64.wrap (h - (1:Int)),ram,lo,hi)]) * (48:Nat) ≤ (140737488355328:Nat)) (.leaf (Sum.inl (hoist,places,ram,(),(),(),out ++ [(hoist,a,IntKind.i64.wrap (h - (1:Int)),ram,lo,hi)],(-1:Int),N,IntKind.i64.wrap (h + (1:Int)),f,st,nr,l,lo,hi,()))))) (.leaf (Sum.inl (hoist,places,ram,(),(),(),out,a,N,IntKind.i64.wrap (h + (1:Int)),f,st,nr,l,lo,hi,())))) (.leaf (Sum.inl (hoist,places,ram,(),(),(),out,a,N,IntKind.i64.wrap (h + (1:Int)),f,st,nr,l,lo,hi,()))))) (.cond (!nearS l (IntKind.i64.wrap (IntKind.i64.wrap (f - IntKind.i64.wrap (h * st)) - nr)) (IntKind.i64.wrap (IntKind.i64.wrap (f - IntKind.i64.wrap (h * st)) + nr))) (.cond (decide (a ≥ (0:Int))) (.cond (decide (ram < hoist)) (.need ((List.length out + List.length [(ram,lo,hi,hoist,a,IntKind.i64.wrap (h - (1:Int)))]) * (48:Nat) ≤ (140737488355328:Nat)) (.leaf (Sum.inl (hoist,places,ram,(),(),(),out ++ [(ram,lo,hi,hoist,a,IntKind.i64.wrap (h - (1:Int)))],(-1:Int),N,IntKind.i64.wrap (h + (1:Int)),f,st,nr,l,lo,hi,())))) (.need ((List.length out + List.length [(hoist,a,IntKind.i64.wrap (h - (1:Int)),ram,lo,hi)]) * (48:Nat) ≤ (140737488355328:Nat)) (.leaf (Sum.inl (hoist,places,ram,(),(),(),out ++ [(hoist,a,IntKind.i64.wrap (h - (1:Int)),ram,lo,hi)],(-1:Int),N,IntKind.i64.wrap (h + (1:Int)),f,st,nr,l,lo,hi,()))))) (.leaf (Sum.inl (hoist,places,ram,(),(),(),out,a,N,IntKind.i64.wrap (h + (1:Int)),f,st,nr,l,lo,hi,())))) (.leaf (Sum.inl (hoist,places,ram,(),(),(),out,a,N,IntKind.i64.wrap (h + (1:Int)),f,st,nr,l,lo,hi,())))))) (.cond (decide (a ≥ (0:Int))) (.cond (decide (ram < hoist)) (.need ((List.length out + List.length [(ram,lo,hi,hoist,a,IntKind.i64.wrap (h - (1:Int)))]) * (48:Nat) ≤ (140737488355328:Nat)) (.leaf (Sum.inl (hoist,places,ram,(),(),(),out ++ [(ram,lo,hi,hoist,a,IntKind.i64.wrap (h - (1:Int)))],(-1:Int),N,IntKind.i64.wrap (h + (1:Int)),f,st,nr,l,lo,hi,())))) (.need ((List.length out + List.length [(hoist,a,IntKind.i64.wrap (h - (1:Int)),ram,lo,hi)]) * (48:Nat) ≤ (140737488355328:Nat)) (.leaf (Sum.inl (hoist,places,ram,(),(),(),out ++ [(hoist,a,IntKind.i64.wrap (h - (1:Int)),ram,lo,hi)],(-1:Int),N,IntKind.i64.wrap (h + (1:Int)),f,st,nr,l,lo,hi,()))))) (.leaf (Sum.inl (hoist,places,ram,(),(),(),out,a,N,IntKind.i64.wrap (h + (1:Int)),f,st,nr,l,lo,hi,()))))) (.leaf (Sum.inr (Exit.exit (1:Nat),Lay.st L_shear_0 noU (out,())))):=by kernel_rfl
def inv_shear:Int × Int × Int × Unit × Unit × Unit × List (Int × (Int × (Int × V))) × Int × Int × Int × Int × Int × Int × List Tb × Int × Int × Unit → Prop:=fun (hoist,places,ram,(),(),(),out,a,N,h,f,st,nr,l,lo,hi,()) => 0 ≤ h ∧ h ≤ N ∧ N = places + 1 ∧ (2 ≤ places ∧ places ≤ 8) ∧ (0 ≤ f ∧ f ≤ 1048576) ∧ (1 ≤ st ∧ st ≤ 4000) ∧ (0 ≤ nr ∧ nr ≤ 100) ∧ (l.length:Int) < 2 ^ 62 ∧ (out.length:Int) ≤ h ∧ (-1 ≤ a ∧ a ≤ h)
def O_shear:Int × Int × Int × Unit × Unit × Unit × List (Int × (Int × (Int × V))) × Int × Int × Int × Int × Int × Int × List Tb × Int × Int × Unit → Tree (Exit × St):=fun (hoist,places,ram,(),(),(),out,a,N,h,f,st,nr,l,lo,hi,()) => (.leaf (.exit 1,L_shear_0.st noU ((shP (nrS f st nr l) (mkB hoist ram lo hi) places (N - h).toNat h a out),())))
def R_shear:LRun:=runOf 160 L_shear (fun x => x) (inv_shear) (O_shear)
theorem K_shear:LoopOk P [] 160 none noU C_shear (R_shear):=by
  refine loop_of hm (cx:=[c_Near.gc]) [] (xl:=X_shear) (α:=Int × Int × Int × Unit × Unit × Unit × List (Int × (Int × (Int × V))) × Int × Int × Int × Int × Int × Int × List Tb × Int × Int × Unit) (fun x => x) (fun (hoist,places,ram,(),(),(),out,a,N,h,f,st,nr,l,lo,hi,()) => (N - h).toNat) (fun _ => rfl) (by kernel_rfl) (by kernel_rfl) ?_ (by kernel_rfl) trivial ?_
  · intro e S L' h
    unfold X_shear at h
    split at h <;> first | (cases h; done) | (cases h; kernel_rfl) | (rcases bif_some h with h | h <;> cases h <;> kernel_rfl)
  · rintro ⟨hoist,places,ram,⟨⟩,⟨⟩,⟨⟩,out,a,N,h,f,st,nr,l,lo,hi,⟨⟩⟩ hinv Q hQ
    refine hold_of_eq (B_shear hoist places ram out a N h f st nr l lo hi) ?_
    obtain ⟨h0,h1,rfl,⟨p1,p2⟩,⟨f1,f2⟩,⟨s1,s2⟩,⟨n1,n2⟩,h62,ho,ha⟩:=hinv
    have hm:=Go.MP.mul_rng (a:=h) (b:=st) (A:=9) (B:=4000) h0 (by omega) (by omega) s2
    rw [W_id (n:=h + 1) (by omega) (by omega),W_id (n:=h - 1) (by omega) (by omega),W_id (n:=h * st) (by omega) (by omega),W_id (n:=f - h * st) (by omega) (by omega),W_id (n:=f - h * st - nr) (by omega) (by omega),W_id (n:=f - h * st + nr) (by omega) (by omega)]
    have hQ' : Q (.exit 1,L_shear_0.st noU (shP (nrS f st nr l) (mkB hoist ram lo hi) places (places + 1 - h).toNat h a out,())):=hQ
    refine ⟨fun c1 => ?_,fun c1 => ?_⟩
    · have d1:h < places + 1:=of_decide_eq_true c1
      rw [show (places + 1 - h).toNat = (places + 1 - (h + 1)).toNat + 1 by omega] at hQ'
      have go:∀ (a' : Int) (out' : List Ban),-1 ≤ a' → a' ≤ h → (out'.length:Int) ≤ h + 1 → shP (nrS f st nr l) (mkB hoist ram lo hi) places ((places + 1 - (h + 1)).toNat + 1) h a out = shP (nrS f st nr l) (mkB hoist ram lo hi) places (places + 1 - (h + 1)).toNat (h + 1) a' out' →
          roundB inv_shear (fun (_,_,_,_,_,_,_,_,N,h,_) => (N - h).toNat) O_shear Q (hoist,places,ram,(),(),(),out,a,places + 1,h,f,st,nr,l,lo,hi,()) (Sum.inl (hoist,places,ram,(),(),(),out',a',places + 1,h + 1,f,st,nr,l,lo,hi,())):=fun a' out' q1 q2 q3 q => by
        rw [q] at hQ'
        exact ⟨⟨⟨by omega,by omega,rfl,⟨p1,p2⟩,⟨f1,f2⟩,⟨s1,s2⟩,⟨n1,n2⟩,h62,by omega,by omega⟩,by show (places + 1 - (h + 1)).toNat < (places + 1 - h).toNat; omega⟩,hQ'⟩
      have yes:decide (h < places) = true → nearS l (f - h * st - nr) (f - h * st + nr) = true → (decide (h < places) && nrS f st nr l h) = true:=fun q1 q2 => by rw [q1]; exact q2
      have no1:nearS l (f - h * st - nr) (f - h * st + nr) = false → (decide (h < places) && nrS f st nr l h) = false:=fun q => by
        rw [show nrS f st nr l h = false from q,Bool.and_false]
      have no2:decide (h < places) = false → (decide (h < places) && nrS f st nr l h) = false:=fun q => by rw [q,Bool.false_and]
      have cap:(out.length + 1) * 48 ≤ 140737488355328:=by omega
      have two1:decide (ram < hoist) = true → mkB hoist ram lo hi a (h - 1) = (ram,lo,hi,hoist,a,h - 1):=fun q => by unfold mkB; rw [if_pos (of_decide_eq_true q)]
      have two2:decide (ram < hoist) = false → mkB hoist ram lo hi a (h - 1) = (hoist,a,h - 1,ram,lo,hi):=fun q => by unfold mkB; rw [if_neg (of_decide_eq_false q)]
      have emit:∀ b:Ban,(decide (h < places) && nrS f st nr l h) = false → 0 ≤ a → mkB hoist ram lo hi a (h - 1) = b → roundB inv_shear (fun (_,_,_,_,_,_,_,_,N,h,_) => (N - h).toNat) O_shear Q (hoist,places,ram,(),(),(),out,a,places + 1,h,f,st,nr,l,lo,hi,()) (Sum.inl (hoist,places,ram,(),(),(),out ++ [b],-1,places + 1,h + 1,f,st,nr,l,lo,hi,())):=fun b q1 q2 q3 => by
        refine go (-1) _ (by omega) (by omega) ?_ ?_
        · rw [List.length_append,List.length_singleton]; omega
        · rw [shP_no q1,if_pos q2,q3]
      have stay:(decide (h < places) && nrS f st nr l h) = false → ¬ 0 ≤ a → roundB inv_shear (fun (_,_,_,_,_,_,_,_,N,h,_) => (N - h).toNat) O_shear Q (hoist,places,ram,(),(),(),out,a,places + 1,h,f,st,nr,l,lo,hi,()) (Sum.inl (hoist,places,ram,(),(),(),out,a,places + 1,h + 1,f,st,nr,l,lo,hi,())):=fun q1 q2 => by
        refine go a _ ha.1 (by omega) (by omega) ?_
        rw [shP_no q1,if_neg q2]
      refine ⟨fun c2 => ⟨h62,⟨fun c3 => ⟨fun c4 => ?_,fun c4 => ⟨fun c5 => ?_,fun c5 => ?_⟩⟩,fun c3 => ⟨fun c8 => ⟨fun c9 => ⟨fun c10 => ⟨cap,?_⟩,fun c10 => ⟨cap,?_⟩⟩,fun c9 => ?_⟩,fun c8 => ?_⟩⟩⟩,fun c2 => ⟨fun c11 => ⟨fun c12 => ⟨cap,?_⟩,fun c12 => ⟨cap,?_⟩⟩,fun c11 => ?_⟩⟩
      · exact go h out (by omega) (by omega) (by omega) (by rw [shP_yes (yes c2 c3),if_pos (of_decide_eq_true c4)])
      · rw [c3] at c5; cases c5
      · exact go a out ha.1 (by omega) (by omega) (by rw [shP_yes (yes c2 c3),if_neg (of_decide_eq_false c4)])
      · exact emit _ (no1 c3) (of_decide_eq_true c9) (two1 c10)
      · exact emit _ (no1 c3) (of_decide_eq_true c9) (two2 c10)
      · exact stay (no1 c3) (of_decide_eq_false c9)
      · rw [c3] at c8; cases c8
      · exact emit _ (no2 c2) (of_decide_eq_true c11) (two1 c12)
      · exact emit _ (no2 c2) (of_decide_eq_true c11) (two2 c12)
      · exact stay (no2 c2) (of_decide_eq_false c11)
    · have d1:¬ h < places + 1:=of_decide_eq_false c1
      rw [show (places + 1 - h).toNat = 0 by omega] at hQ'
      exact hQ'
theorem T_Shear (f st nr:Int) (l:List Tb) (hoist places ram lo hi:Int):fnTree (P:=P) [c_within.gc,c_TCheck.gc] (lpOf [(1,R_shear)]) Try.f6 (encL 0 [.agg tV,.agg tTs,.val tI,.val tI,.val tI,.agg tPart] ((f,(st,nr)),l,hoist,places,ram,(lo,hi),())) =
  Tree.need ((l.length:Int) < (2:Int) ^ (62:Nat)) (.cond (checkT l != (0:Int)) (.leaf (SV.tup [SV.nils,SV.int IntKind.i64 (checkT l)])) (.cond (decide (f < (0:Int))) (.leaf (SV.tup [SV.nils,SV.int IntKind.i64 (2:Int)])) (.cond (decide (f > (1048576:Int))) (.leaf (SV.tup [SV.nils,SV.int IntKind.i64 (2:Int)])) (.cond (decide (st < (1:Int))) (.leaf (SV.tup [SV.nils,SV.int IntKind.i64 (2:Int)])) (.cond (decide (st > (4000:Int))) (.leaf (SV.tup [SV.nils,SV.int IntKind.i64 (2:Int)])) (.cond (decide (nr < (0:Int))) (.leaf (SV.tup [SV.nils,SV.int IntKind.i64 (2:Int)])) (.cond (decide (nr > (100:Int))) (.leaf (SV.tup [SV.nils,SV.int IntKind.i64 (2:Int)])) (.cond (!wi hoist (0:Int) (3:Int)) (.leaf (SV.tup [SV.nils,SV.int IntKind.i64 (11:Int)])) (.cond (!wi ram (0:Int) (3:Int)) (.leaf (SV.tup [SV.nils,SV.int IntKind.i64 (11:Int)])) (.cond (hoist == ram) (.leaf (SV.tup [SV.nils,SV.int IntKind.i64 (11:Int)])) (.cond (!wi places (2:Int) (8:Int)) (.leaf (SV.tup [SV.nils,SV.int IntKind.i64 (2:Int)])) (.cond (decide (lo < (0:Int))) (.leaf (SV.tup [SV.nils,SV.int IntKind.i64 (2:Int)])) (.cond (decide (lo > hi)) (.leaf (SV.tup [SV.nils,SV.int IntKind.i64 (2:Int)])) (.cond (decide (hi > (7:Int))) (.leaf (SV.tup [SV.nils,SV.int IntKind.i64 (2:Int)])) (.need (inv_shear (hoist,places,ram,(),(),(),[],(-1:Int),IntKind.i64.wrap (places + (1:Int)),(0:Int),f,st,nr,l,lo,hi,())) (.leaf (SV.tup [SV.sl (Ty.pair tI (Ty.pair tI (Ty.pair tI tV))) (shP (nrS f st nr l) (mkB hoist ram lo hi) places (Int.toNat (IntKind.i64.wrap (places + (1:Int)) - (0:Int))) (0:Int) (-1:Int) []),SV.int IntKind.i64 (0:Int)]))))))))))))))))):=by kernel_rfl
def c_Shear:PC P:=PC.of (α:=V × List Tb × Int × Int × Int × (Int × Int) × Unit) 6 [.agg tV,.agg tTs,.val tI,.val tI,.val tI,.agg tPart] (fun x => x) (fun x => x) (fun _ => rfl)
  (fun x => some ((x.2.1.length:Int) < 2 ^ 62))
  (fun x => .tup [.sl tBan (shearS (x.1.1,x.1.2.1,x.1.2.2) x.2.1 x.2.2.1 x.2.2.2.1 x.2.2.2.2.1 (x.2.2.2.2.2.1.1,x.2.2.2.2.2.1.2)),.int .i64 (ramE (x.1.1,x.1.2.1,x.1.2.2) x.2.1 x.2.2.1 x.2.2.2.1 x.2.2.2.2.1 (x.2.2.2.2.2.1.1,x.2.2.2.2.2.1.2))]) (by kernel_rfl) (by
    rintro ⟨⟨f,⟨st,nr⟩⟩,l,hoist,places,ram,⟨lo,hi⟩,⟨⟩⟩ hp
    refine fn_le hm (by kernel_rfl) (by kernel_rfl) (T_Shear f st nr l hoist places ram lo hi) ⟨K_shear,trivial⟩ (by kernel_rfl) ?_
    try dsimp only at hp
    try dsimp only
    have h62:(l.length:Int) < 2 ^ 62:=hp
    have bad:∀ e:Int,ramE (f,st,nr) l hoist places ram (lo,hi) = e → e ≠ 0 → LeS (.tup [.nils,.int .i64 e]) (.tup [.sl tBan (shearS (f,st,nr) l hoist places ram (lo,hi)),.int .i64 (ramE (f,st,nr) l hoist places ram (lo,hi))]):=fun e q1 q2 => by
      unfold shearS
      rw [q1,if_pos q2]
      exact leS_n2b e
    refine ⟨h62,⟨fun c1 => ?_,fun c1 => ?_⟩⟩
    · have d1:checkT l ≠ 0:=by simpa using c1
      exact bad _ (by unfold ramE; rw [if_pos d1]) d1
    have d1:¬ checkT l ≠ 0:=by simpa using c1
    have b2:(f < 0 ∨ f > 1048576 ∨ st < 1 ∨ st > 4000 ∨ nr < 0 ∨ nr > 100) → LeS (.tup [.nils,.int .i64 2]) (.tup [.sl tBan (shearS (f,st,nr) l hoist places ram (lo,hi)),.int .i64 (ramE (f,st,nr) l hoist places ram (lo,hi))]):=fun q =>
      bad 2 (by unfold ramE; rw [if_neg d1,if_pos q]) (by decide)
    refine ⟨fun c2 => b2 (.inl (of_decide_eq_true c2)),fun c2 => ⟨fun c3 => b2 (.inr (.inl (of_decide_eq_true c3))),fun c3 => ⟨fun c4 => b2 (.inr (.inr (.inl (of_decide_eq_true c4)))),fun c4 => ⟨fun c5 => b2 (.inr (.inr (.inr (.inl (of_decide_eq_true c5))))),fun c5 => ⟨fun c6 => b2 (.inr (.inr (.inr (.inr (.inl (of_decide_eq_true c6)))))),fun c6 => ⟨fun c7 => b2 (.inr (.inr (.inr (.inr (.inr (of_decide_eq_true c7)))))),fun c7 => ?_⟩⟩⟩⟩⟩⟩
    have d2:=of_decide_eq_false c2
    have d3:=of_decide_eq_false c3
    have d4:=of_decide_eq_false c4
    have d5:=of_decide_eq_false c5
    have d6:=of_decide_eq_false c6
    have d7:=of_decide_eq_false c7
    have n2:¬ (f < 0 ∨ f > 1048576 ∨ st < 1 ∨ st > 4000 ∨ nr < 0 ∨ nr > 100):=by omega
    have b3:(hoist < 0 ∨ hoist ≥ 4 ∨ ram < 0 ∨ ram ≥ 4 ∨ hoist = ram) → LeS (.tup [.nils,.int .i64 11]) (.tup [.sl tBan (shearS (f,st,nr) l hoist places ram (lo,hi)),.int .i64 (ramE (f,st,nr) l hoist places ram (lo,hi))]):=fun q =>
      bad 11 (by unfold ramE; rw [if_neg d1,if_neg n2,if_pos q]) (by decide)
    refine ⟨fun c8 => b3 ?_,fun c8 => ⟨fun c9 => b3 ?_,fun c9 => ⟨fun c10 => b3 ?_,fun c10 => ?_⟩⟩⟩
    · have:=wi_no (by simpa using c8:wi hoist 0 3 = false); omega
    · have:=wi_no (by simpa using c9:wi ram 0 3 = false); omega
    · have:hoist = ram:=by simpa using c10
      omega
    have d8:=wi_yes (by simpa using c8:wi hoist 0 3 = true)
    have d9:=wi_yes (by simpa using c9:wi ram 0 3 = true)
    have d10:¬ hoist = ram:=by simpa using c10
    have n3:¬ (hoist < 0 ∨ hoist ≥ 4 ∨ ram < 0 ∨ ram ≥ 4 ∨ hoist = ram):=by omega
    have b4:(places < 2 ∨ places > 8 ∨ lo < 0 ∨ lo > hi ∨ hi > 7) → LeS (.tup [.nils,.int .i64 2]) (.tup [.sl tBan (shearS (f,st,nr) l hoist places ram (lo,hi)),.int .i64 (ramE (f,st,nr) l hoist places ram (lo,hi))]):=fun q =>
      bad 2 (by unfold ramE; rw [if_neg d1,if_neg n2,if_neg n3,if_pos q]) (by decide)
    refine ⟨fun c11 => b4 ?_,fun c11 => ⟨fun c12 => b4 (.inr (.inr (.inl (of_decide_eq_true c12)))),fun c12 => ⟨fun c13 => b4 (.inr (.inr (.inr (.inl (of_decide_eq_true c13))))),fun c13 => ⟨fun c14 => b4 (.inr (.inr (.inr (.inr (of_decide_eq_true c14))))),fun c14 => ?_⟩⟩⟩⟩
    · have:=wi_no (by simpa using c11:wi places 2 8 = false); omega
    have d11:=wi_yes (by simpa using c11:wi places 2 8 = true)
    have d12:=of_decide_eq_false c12
    have d13:=of_decide_eq_false c13
    have d14:=of_decide_eq_false c14
    rw [W_id (n:=places + 1) (by omega) (by omega)]
    refine ⟨⟨by decide,by omega,rfl,by omega,by omega,by omega,by omega,h62,by decide,by omega⟩,?_⟩
    have e0:ramE (f,st,nr) l hoist places ram (lo,hi) = 0:=by unfold ramE; rw [if_neg d1,if_neg n2,if_neg n3,if_neg (by omega)]
    unfold shearS
    rw [e0,if_neg (by decide),Int.sub_zero]
    exact leS_t2b _ 0)
end
end Go.MR
