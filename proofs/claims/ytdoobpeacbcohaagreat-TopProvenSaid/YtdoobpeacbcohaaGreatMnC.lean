/- Logs: the numbers of a site and entries, as the program lists them. -/
import Derived.Test.YtdoobpeacbcohaaGreatMoG
import Derived.Test.YtdoobpeacbcohaaGreatMnA
namespace Go.MB
open Go Go.Sx Go.Proofs
set_option linter.unusedVariables false
set_option linter.unusedSimpArgs false
noncomputable section
def elsN:List E4 → List Int
  | [] => []
  | e :: r => e.1 :: e.2.1 :: e.2.2.1 :: e.2.2.2 :: elsN r
def envsN:List (List Int) → List Int
  | [] => []
  | q :: r => (q.length:Int) :: (q ++ envsN r)
def oneS (b:Bool):Int:=if b = true then 1 else 0
def pmsN:List Pm → List Int
  | [] => []
  | p :: r => p.1 :: p.2.1 :: p.2.2.1 :: oneS p.2.2.2 :: pmsN r
def ensN:List Entry → List Int
  | [] => []
  | e :: r => e.1 :: e.2.1 :: e.2.2.1 :: e.2.2.2.1 :: e.2.2.2.2.1 :: e.2.2.2.2.2 :: ensN r
def numsS (s:Site) (l:List Entry):List Int :=
  [s.1,s.2.1,s.2.2.1,s.2.2.2.1,s.2.2.2.2.1,(s.2.2.2.2.2.1.1.length:Int)] ++ elsN s.2.2.2.2.2.1.1 ++ [(s.2.2.2.2.2.1.2.1.length:Int)] ++ envsN s.2.2.2.2.2.1.2.1 ++ [s.2.2.2.2.2.1.2.2,(s.2.2.2.2.2.2.1.length:Int)] ++ pmsN s.2.2.2.2.2.2.1 ++ [s.2.2.2.2.2.2.2,(l.length:Int)] ++ ensN l
theorem elsN_len:∀ l:List E4,(elsN l).length = 4 * l.length
  | [] => rfl
  | e :: r => by simp only [elsN,List.length_cons,elsN_len r]; omega
theorem envsN_len:∀ l:List (List Int),(∀ q ∈ l,q.length ≤ 1000) → (envsN l).length ≤ 1001 * l.length
  | [],_ => Nat.le_refl _
  | q :: r,h => by
    have:=envsN_len r fun x hx => h x (List.mem_cons_of_mem _ hx)
    have:=h q (List.mem_cons_self ..)
    simp only [envsN,List.length_cons,List.length_append]; omega
theorem pmsN_len:∀ l:List Pm,(pmsN l).length = 4 * l.length
  | [] => rfl
  | e :: r => by simp only [pmsN,List.length_cons,pmsN_len r]; omega
theorem ensN_len:∀ l:List Entry,(ensN l).length = 6 * l.length
  | [] => rfl
  | e :: r => by simp only [ensN,List.length_cons,ensN_len r]; omega
theorem T_one (b:Bool):fnTree (P:=P) [] (lpOf []) Tryz.f57 (encL 0 [.val .bool] (b,())) =
  Tree.cond b (.leaf (SV.int IntKind.i64 (1:Int))) (.leaf (SV.int IntKind.i64 (0:Int))):=by kernel_rfl
def c_one:PC P:=PC.of (α:=Bool × Unit) 57 [.val .bool] (fun x => x) (fun x => x) (fun _ => rfl)
  (fun _ => none)
  (fun x => .int .i64 (oneS x.1)) (by kernel_rfl) (by
    rintro ⟨b,⟨⟩⟩ hp
    refine fn_of hm (by kernel_rfl) (by kernel_rfl) (T_one b) trivial ?_
    try dsimp only at hp
    try dsimp only
    refine ⟨fun c1 => ?_,fun c1 => ?_⟩
    · rw [show b = true from c1]; exact rfl
    · rw [show b = false from c1]; exact rfl)
def L_num0:Lay:={ slots:=[(1,.val (.sl (.pair tI (.pair tI (.pair tI tV))))),(2,.ptr 3142 0),(5,.row 2 tI),(33,.val (.sl (.pair tI tV))),(34,.val tI),(35,.val tI)],boxes:=[(3142,[.val tI,.val tI,.val tI,.val tI,.val tI,.val (.sl (.pair tI tV)),.val (.sl tIs),.val tI,.val (.sl (.pair tI (.pair tI (.pair tI .bool)))),.val tI])] }
def L_num0_0:Lay:={ slots:=[(1,.val (.sl (.pair tI (.pair tI (.pair tI tV))))),(2,.ptr 3142 0),(5,.row 2 tI)],boxes:=[(3142,[.val tI,.val tI,.val tI,.val tI,.val tI,.val (.sl (.pair tI tV)),.val (.sl tIs),.val tI,.val (.sl (.pair tI (.pair tI (.pair tI .bool)))),.val tI])] }
def X_num0:Exit → St → Option Lay
  | .exit 0,_ => some L_num0_0
  | _,_ => none
abbrev C_num0:Code:=loopC (bodyOf Tryz.f33) 0
theorem B_num0 (l:List (Int × (Int × (Int × V)))) (out:List Int) (els:List (Int × V)) (n i b2_0 b2_1 b2_2 b2_3 b2_4:Int) (b2_5:List (Int × V)) (b2_6:List (List Int)) (b2_7:Int) (b2_8:List (Int × (Int × (Int × Bool)))) (b2_9:Int):loopBodyA (P:=P) [] (lpOf []) [] 142 noU (inner C_num0) L_num0 X_num0 (α:=List (Int × (Int × (Int × V))) × Unit × List Int × List (Int × V) × Int × Int × Int × Int × Int × Int × Int × List (Int × V) × List (List Int) × Int × List (Int × (Int × (Int × Bool))) × Int × Unit) (fun x => x) (fun x => x) (l,(),out,els,n,i,b2_0,b2_1,b2_2,b2_3,b2_4,b2_5,b2_6,b2_7,b2_8,b2_9,()) =
  Tree.cond (decide (i < n)) (.need ((0:Int) ≤ i ∧ i < (els.length:Int)) (.need ((List.length out + List.length [(List.getD els (Int.toNat i) (0,0,0,0)).fst,(List.getD els (Int.toNat i) (0,0,0,0)).snd.fst,(List.getD els (Int.toNat i) (0,0,0,0)).snd.snd.fst,(List.getD els (Int.toNat i) (0,0,0,0)).snd.snd.snd]) * (8:Nat) ≤ (140737488355328:Nat)) (.leaf (Sum.inl (l,(),out ++ [(List.getD els (Int.toNat i) (0,0,0,0)).fst,(List.getD els (Int.toNat i) (0,0,0,0)).snd.fst,(List.getD els (Int.toNat i) (0,0,0,0)).snd.snd.fst,(List.getD els (Int.toNat i) (0,0,0,0)).snd.snd.snd],els,n,IntKind.i64.wrap (i + (1:Int)),b2_0,b2_1,b2_2,b2_3,b2_4,b2_5,b2_6,b2_7,b2_8,b2_9,()))))) (.leaf (Sum.inr (Exit.exit (0:Nat),Lay.st L_num0_0 noU (l,(),out,b2_0,b2_1,b2_2,b2_3,b2_4,b2_5,b2_6,b2_7,b2_8,b2_9,())))):=by kernel_rfl
def inv_num0:List (Int × (Int × (Int × V))) × Unit × List Int × List (Int × V) × Int × Int × Int × Int × Int × Int × Int × List (Int × V) × List (List Int) × Int × List (Int × (Int × (Int × Bool))) × Int × Unit → Prop:=fun (l,(),out,els,n,i,b2_0,b2_1,b2_2,b2_3,b2_4,b2_5,b2_6,b2_7,b2_8,b2_9,()) => n = els.length ∧ 0 ≤ i ∧ i ≤ n ∧ els.length ≤ 1000 ∧ (out.length:Int) ≤ 10 + 4 * i
def O_num0:List (Int × (Int × (Int × V))) × Unit × List Int × List (Int × V) × Int × Int × Int × Int × Int × Int × Int × List (Int × V) × List (List Int) × Int × List (Int × (Int × (Int × Bool))) × Int × Unit → Tree (Exit × St):=fun (l,(),out,els,n,i,b2_0,b2_1,b2_2,b2_3,b2_4,b2_5,b2_6,b2_7,b2_8,b2_9,()) => (.leaf (.exit 0,L_num0_0.st noU (l,(),(out ++ elsN (els.drop i.toNat)),b2_0,b2_1,b2_2,b2_3,b2_4,b2_5,b2_6,b2_7,b2_8,b2_9,())))
def R_num0:LRun:=runOf 142 L_num0 (fun x => x) (inv_num0) (O_num0)
theorem K_num0:LoopOk P [] 142 none noU C_num0 (R_num0):=by
  refine loop_of hm (cx:=[]) [] (xl:=X_num0) (α:=List (Int × (Int × (Int × V))) × Unit × List Int × List (Int × V) × Int × Int × Int × Int × Int × Int × Int × List (Int × V) × List (List Int) × Int × List (Int × (Int × (Int × Bool))) × Int × Unit) (fun x => x) (fun (l,(),out,els,n,i,b2_0,b2_1,b2_2,b2_3,b2_4,b2_5,b2_6,b2_7,b2_8,b2_9,()) => (n - i).toNat) (fun _ => rfl) (by kernel_rfl) (by kernel_rfl) ?_ (by kernel_rfl) trivial ?_
  · intro e S L' h
    unfold X_num0 at h
    split at h <;> first | (cases h; done) | (cases h; kernel_rfl) | (rcases bif_some h with h | h <;> cases h <;> kernel_rfl)
  · rintro ⟨l,⟨⟩,out,els,n,i,b2_0,b2_1,b2_2,b2_3,b2_4,b2_5,b2_6,b2_7,b2_8,b2_9,⟨⟩⟩ hinv Q hQ
    refine hold_of_eq (B_num0 l out els n i b2_0 b2_1 b2_2 b2_3 b2_4 b2_5 b2_6 b2_7 b2_8 b2_9) ?_
    obtain ⟨rfl,h0,h1,h2,h3⟩:=hinv
    rw [W_id (n:=i + 1) (by omega) (by omega)]
    unfold O_num0 at hQ
    dsimp only at hQ
    refine ⟨fun c1 => ?_,fun c1 => ?_⟩
    · have c1:=of_decide_eq_true c1
      rw [drop_step ((0,0,0,0):E4) h0 c1,elsN,show ∀ (x y:List Int) (a b c d:Int),x ++ a :: b :: c :: d :: y = x ++ [a,b,c,d] ++ y from fun x y a b c d => by simp] at hQ
      exact ⟨⟨h0,c1⟩,by simp only [List.length_cons,List.length_nil]; omega,⟨⟨rfl,by omega,by omega,h2,by simp only [List.length_append,List.length_cons,List.length_nil]; omega⟩,by show ((els.length:Int) - (i + 1)).toNat < ((els.length:Int) - i).toNat; omega⟩,hQ⟩
    · rw [drop_end (of_decide_eq_false c1),elsN,List.append_nil] at hQ
      exact hQ
def L_num4:Lay:={ slots:=[(1,.val (.sl (.pair tI (.pair tI (.pair tI tV))))),(2,.ptr 3142 0),(5,.row 2 tI),(60,.val (.sl tIs)),(61,.val tI),(62,.val tI),(71,.val tIs),(72,.val tI),(73,.val tI)],boxes:=[(3142,[.val tI,.val tI,.val tI,.val tI,.val tI,.val (.sl (.pair tI tV)),.val (.sl tIs),.val tI,.val (.sl (.pair tI (.pair tI (.pair tI .bool)))),.val tI])] }
def L_num4_0:Lay:={ slots:=[(1,.val (.sl (.pair tI (.pair tI (.pair tI tV))))),(2,.ptr 3142 0),(5,.row 2 tI),(60,.val (.sl tIs)),(61,.val tI),(62,.val tI)],boxes:=[(3142,[.val tI,.val tI,.val tI,.val tI,.val tI,.val (.sl (.pair tI tV)),.val (.sl tIs),.val tI,.val (.sl (.pair tI (.pair tI (.pair tI .bool)))),.val tI])] }
def X_num4:Exit → St → Option Lay
  | .exit 4,_ => some L_num4_0
  | _,_ => none
abbrev C_num4:Code:=loopC (inner (loopC (bodyOf Tryz.f33) 2)) 4
theorem B_num4 (l:List (Int × (Int × (Int × V)))) (out:List Int) (envs:List (List Int)) (m j:Int) (q:List Int) (c k b2_0 b2_1 b2_2 b2_3 b2_4:Int) (b2_5:List (Int × V)) (b2_6:List (List Int)) (b2_7:Int) (b2_8:List (Int × (Int × (Int × Bool)))) (b2_9:Int):loopBodyA (P:=P) [] (lpOf []) [] 142 noU (inner C_num4) L_num4 X_num4 (α:=List (Int × (Int × (Int × V))) × Unit × List Int × List (List Int) × Int × Int × List Int × Int × Int × Int × Int × Int × Int × Int × List (Int × V) × List (List Int) × Int × List (Int × (Int × (Int × Bool))) × Int × Unit) (fun x => x) (fun x => x) (l,(),out,envs,m,j,q,c,k,b2_0,b2_1,b2_2,b2_3,b2_4,b2_5,b2_6,b2_7,b2_8,b2_9,()) =
  Tree.cond (decide (k < c)) (.need ((0:Int) ≤ k ∧ k < (q.length:Int)) (.need ((List.length out + List.length [List.getD q (Int.toNat k) (0:Int)]) * (8:Nat) ≤ (140737488355328:Nat)) (.leaf (Sum.inl (l,(),out ++ [List.getD q (Int.toNat k) (0:Int)],envs,m,j,q,c,IntKind.i64.wrap (k + (1:Int)),b2_0,b2_1,b2_2,b2_3,b2_4,b2_5,b2_6,b2_7,b2_8,b2_9,()))))) (.leaf (Sum.inr (Exit.exit (4:Nat),Lay.st L_num4_0 noU (l,(),out,envs,m,j,b2_0,b2_1,b2_2,b2_3,b2_4,b2_5,b2_6,b2_7,b2_8,b2_9,())))):=by kernel_rfl
def inv_num4:List (Int × (Int × (Int × V))) × Unit × List Int × List (List Int) × Int × Int × List Int × Int × Int × Int × Int × Int × Int × Int × List (Int × V) × List (List Int) × Int × List (Int × (Int × (Int × Bool))) × Int × Unit → Prop:=fun (l,(),out,envs,m,j,q,c,k,b2_0,b2_1,b2_2,b2_3,b2_4,b2_5,b2_6,b2_7,b2_8,b2_9,()) => c = q.length ∧ 0 ≤ k ∧ k ≤ c ∧ q.length ≤ 1000 ∧ (out.length:Int) ≤ 100000000 + k
def O_num4:List (Int × (Int × (Int × V))) × Unit × List Int × List (List Int) × Int × Int × List Int × Int × Int × Int × Int × Int × Int × Int × List (Int × V) × List (List Int) × Int × List (Int × (Int × (Int × Bool))) × Int × Unit → Tree (Exit × St):=fun (l,(),out,envs,m,j,q,c,k,b2_0,b2_1,b2_2,b2_3,b2_4,b2_5,b2_6,b2_7,b2_8,b2_9,()) => (.leaf (.exit 4,L_num4_0.st noU (l,(),(out ++ q.drop k.toNat),envs,m,j,b2_0,b2_1,b2_2,b2_3,b2_4,b2_5,b2_6,b2_7,b2_8,b2_9,())))
def R_num4:LRun:=runOf 142 L_num4 (fun x => x) (inv_num4) (O_num4)
theorem K_num4:LoopOk P [] 142 none noU C_num4 (R_num4):=by
  refine loop_of hm (cx:=[]) [] (xl:=X_num4) (α:=List (Int × (Int × (Int × V))) × Unit × List Int × List (List Int) × Int × Int × List Int × Int × Int × Int × Int × Int × Int × Int × List (Int × V) × List (List Int) × Int × List (Int × (Int × (Int × Bool))) × Int × Unit) (fun x => x) (fun (l,(),out,envs,m,j,q,c,k,b2_0,b2_1,b2_2,b2_3,b2_4,b2_5,b2_6,b2_7,b2_8,b2_9,()) => (c - k).toNat) (fun _ => rfl) (by kernel_rfl) (by kernel_rfl) ?_ (by kernel_rfl) trivial ?_
  · intro e S L' h
    unfold X_num4 at h
    split at h <;> first | (cases h; done) | (cases h; kernel_rfl) | (rcases bif_some h with h | h <;> cases h <;> kernel_rfl)
  · rintro ⟨l,⟨⟩,out,envs,m,j,q,c,k,b2_0,b2_1,b2_2,b2_3,b2_4,b2_5,b2_6,b2_7,b2_8,b2_9,⟨⟩⟩ hinv Q hQ
    refine hold_of_eq (B_num4 l out envs m j q c k b2_0 b2_1 b2_2 b2_3 b2_4 b2_5 b2_6 b2_7 b2_8 b2_9) ?_
    obtain ⟨rfl,h0,h1,h2,h3⟩:=hinv
    rw [W_id (n:=k + 1) (by omega) (by omega)]
    unfold O_num4 at hQ
    dsimp only at hQ
    refine ⟨fun c1 => ?_,fun c1 => ?_⟩
    · have c1:=of_decide_eq_true c1
      rw [drop_step (0:Int) h0 c1,List.append_cons] at hQ
      exact ⟨⟨h0,c1⟩,by simp only [List.length_cons,List.length_nil]; omega,⟨⟨rfl,by omega,by omega,h2,by simp only [List.length_append,List.length_cons,List.length_nil]; omega⟩,by show ((q.length:Int) - (k + 1)).toNat < ((q.length:Int) - k).toNat; omega⟩,hQ⟩
    · rw [drop_end (of_decide_eq_false c1),List.append_nil] at hQ
      exact hQ
def L_num2:Lay:={ slots:=[(1,.val (.sl (.pair tI (.pair tI (.pair tI tV))))),(2,.ptr 3142 0),(5,.row 2 tI),(60,.val (.sl tIs)),(61,.val tI),(62,.val tI)],boxes:=[(3142,[.val tI,.val tI,.val tI,.val tI,.val tI,.val (.sl (.pair tI tV)),.val (.sl tIs),.val tI,.val (.sl (.pair tI (.pair tI (.pair tI .bool)))),.val tI])] }
def L_num2_0:Lay:={ slots:=[(1,.val (.sl (.pair tI (.pair tI (.pair tI tV))))),(2,.ptr 3142 0),(5,.row 2 tI)],boxes:=[(3142,[.val tI,.val tI,.val tI,.val tI,.val tI,.val (.sl (.pair tI tV)),.val (.sl tIs),.val tI,.val (.sl (.pair tI (.pair tI (.pair tI .bool)))),.val tI])] }
def X_num2:Exit → St → Option Lay
  | .exit 2,_ => some L_num2_0
  | _,_ => none
abbrev C_num2:Code:=loopC (bodyOf Tryz.f33) 2
theorem B_num2 (l:List (Int × (Int × (Int × V)))) (out:List Int) (envs:List (List Int)) (m j b2_0 b2_1 b2_2 b2_3 b2_4:Int) (b2_5:List (Int × V)) (b2_6:List (List Int)) (b2_7:Int) (b2_8:List (Int × (Int × (Int × Bool)))) (b2_9:Int):loopBodyA (P:=P) [] (lpOf [(4,R_num4)]) [] 142 noU (inner C_num2) L_num2 X_num2 (α:=List (Int × (Int × (Int × V))) × Unit × List Int × List (List Int) × Int × Int × Int × Int × Int × Int × Int × List (Int × V) × List (List Int) × Int × List (Int × (Int × (Int × Bool))) × Int × Unit) (fun x => x) (fun x => x) (l,(),out,envs,m,j,b2_0,b2_1,b2_2,b2_3,b2_4,b2_5,b2_6,b2_7,b2_8,b2_9,()) =
  Tree.cond (decide (j < m)) (.need ((0:Int) ≤ j ∧ j < (envs.length:Int)) (.need ((List.length out + List.length [(↑(List.length (List.getD envs (Int.toNat j) [])):Int)]) * (8:Nat) ≤ (140737488355328:Nat)) (.need (inv_num4 (l,(),out ++ [(↑(List.length (List.getD envs (Int.toNat j) [])):Int)],envs,m,j,List.getD envs (Int.toNat j) [],(↑(List.length (List.getD envs (Int.toNat j) [])):Int),(0:Int),b2_0,b2_1,b2_2,b2_3,b2_4,b2_5,b2_6,b2_7,b2_8,b2_9,())) (.leaf (Sum.inl (l,(),out ++ [(↑(List.length (List.getD envs (Int.toNat j) [])):Int)] ++ List.drop (Int.toNat (0:Int)) (List.getD envs (Int.toNat j) []),envs,m,IntKind.i64.wrap (j + (1:Int)),b2_0,b2_1,b2_2,b2_3,b2_4,b2_5,b2_6,b2_7,b2_8,b2_9,())))))) (.leaf (Sum.inr (Exit.exit (2:Nat),Lay.st L_num2_0 noU (l,(),out,b2_0,b2_1,b2_2,b2_3,b2_4,b2_5,b2_6,b2_7,b2_8,b2_9,())))):=by kernel_rfl
def inv_num2:List (Int × (Int × (Int × V))) × Unit × List Int × List (List Int) × Int × Int × Int × Int × Int × Int × Int × List (Int × V) × List (List Int) × Int × List (Int × (Int × (Int × Bool))) × Int × Unit → Prop:=fun (l,(),out,envs,m,j,b2_0,b2_1,b2_2,b2_3,b2_4,b2_5,b2_6,b2_7,b2_8,b2_9,()) => m = envs.length ∧ 0 ≤ j ∧ j ≤ m ∧ envs.length ≤ 1000 ∧ (∀ x ∈ envs,x.length ≤ 1000) ∧ (out.length:Int) ≤ 10000 + 1001 * j
def O_num2:List (Int × (Int × (Int × V))) × Unit × List Int × List (List Int) × Int × Int × Int × Int × Int × Int × Int × List (Int × V) × List (List Int) × Int × List (Int × (Int × (Int × Bool))) × Int × Unit → Tree (Exit × St):=fun (l,(),out,envs,m,j,b2_0,b2_1,b2_2,b2_3,b2_4,b2_5,b2_6,b2_7,b2_8,b2_9,()) => (.leaf (.exit 2,L_num2_0.st noU (l,(),(out ++ envsN (envs.drop j.toNat)),b2_0,b2_1,b2_2,b2_3,b2_4,b2_5,b2_6,b2_7,b2_8,b2_9,())))
def R_num2:LRun:=runOf 142 L_num2 (fun x => x) (inv_num2) (O_num2)
theorem K_num2:LoopOk P [] 142 none noU C_num2 (R_num2):=by
  refine loop_of hm (cx:=[]) [(4,R_num4)] (xl:=X_num2) (α:=List (Int × (Int × (Int × V))) × Unit × List Int × List (List Int) × Int × Int × Int × Int × Int × Int × Int × List (Int × V) × List (List Int) × Int × List (Int × (Int × (Int × Bool))) × Int × Unit) (fun x => x) (fun (l,(),out,envs,m,j,b2_0,b2_1,b2_2,b2_3,b2_4,b2_5,b2_6,b2_7,b2_8,b2_9,()) => (m - j).toNat) (fun _ => rfl) (by kernel_rfl) (by kernel_rfl) ?_ (by kernel_rfl) ⟨K_num4,trivial⟩ ?_
  · intro e S L' h
    unfold X_num2 at h
    split at h <;> first | (cases h; done) | (cases h; kernel_rfl) | (rcases bif_some h with h | h <;> cases h <;> kernel_rfl)
  · rintro ⟨l,⟨⟩,out,envs,m,j,b2_0,b2_1,b2_2,b2_3,b2_4,b2_5,b2_6,b2_7,b2_8,b2_9,⟨⟩⟩ hinv Q hQ
    refine hold_of_eq (B_num2 l out envs m j b2_0 b2_1 b2_2 b2_3 b2_4 b2_5 b2_6 b2_7 b2_8 b2_9) ?_
    obtain ⟨rfl,h0,h1,h2,h3,h4⟩:=hinv
    rw [W_id (n:=j + 1) (by omega) (by omega)]
    unfold O_num2 at hQ
    dsimp only at hQ
    refine ⟨fun c1 => ?_,fun c1 => ?_⟩
    · have c1:=of_decide_eq_true c1
      have hq:=h3 _ (getD_mem (d:=([] : List Int)) (show j.toNat < envs.length by omega))
      rw [drop_step ([] : List Int) h0 c1,envsN,List.append_cons,← List.append_assoc] at hQ
      exact ⟨⟨h0,c1⟩,by simp only [List.length_cons,List.length_nil]; omega,⟨rfl,by decide,by omega,hq,by simp only [List.length_append,List.length_cons,List.length_nil]; omega⟩,⟨⟨rfl,by omega,by omega,h2,h3,by show (((out ++ [((envs.getD j.toNat []).length:Int)] ++ envs.getD j.toNat []).length:Nat):Int) ≤ _; simp only [List.length_append,List.length_cons,List.length_nil]; omega⟩,by show ((envs.length:Int) - (j + 1)).toNat < ((envs.length:Int) - j).toNat; omega⟩,hQ⟩
    · rw [drop_end (of_decide_eq_false c1),envsN,List.append_nil] at hQ
      exact hQ
def L_num6:Lay:={ slots:=[(1,.val (.sl (.pair tI (.pair tI (.pair tI tV))))),(2,.ptr 3142 0),(5,.row 2 tI),(93,.val (.sl (.pair tI (.pair tI (.pair tI .bool))))),(94,.val tI),(95,.val tI)],boxes:=[(3142,[.val tI,.val tI,.val tI,.val tI,.val tI,.val (.sl (.pair tI tV)),.val (.sl tIs),.val tI,.val (.sl (.pair tI (.pair tI (.pair tI .bool)))),.val tI])] }
def L_num6_0:Lay:={ slots:=[(1,.val (.sl (.pair tI (.pair tI (.pair tI tV))))),(2,.ptr 3142 0),(5,.row 2 tI)],boxes:=[(3142,[.val tI,.val tI,.val tI,.val tI,.val tI,.val (.sl (.pair tI tV)),.val (.sl tIs),.val tI,.val (.sl (.pair tI (.pair tI (.pair tI .bool)))),.val tI])] }
def X_num6:Exit → St → Option Lay
  | .exit 6,_ => some L_num6_0
  | _,_ => none
abbrev C_num6:Code:=loopC (bodyOf Tryz.f33) 6
theorem B_num6 (l:List (Int × (Int × (Int × V)))) (out:List Int) (pms:List (Int × (Int × (Int × Bool)))) (d t b2_0 b2_1 b2_2 b2_3 b2_4:Int) (b2_5:List (Int × V)) (b2_6:List (List Int)) (b2_7:Int) (b2_8:List (Int × (Int × (Int × Bool)))) (b2_9:Int):loopBodyA (P:=P) [c_one.gc] (lpOf []) [] 142 noU (inner C_num6) L_num6 X_num6 (α:=List (Int × (Int × (Int × V))) × Unit × List Int × List (Int × (Int × (Int × Bool))) × Int × Int × Int × Int × Int × Int × Int × List (Int × V) × List (List Int) × Int × List (Int × (Int × (Int × Bool))) × Int × Unit) (fun x => x) (fun x => x) (l,(),out,pms,d,t,b2_0,b2_1,b2_2,b2_3,b2_4,b2_5,b2_6,b2_7,b2_8,b2_9,()) =
  Tree.cond (decide (t < d)) (.need ((0:Int) ≤ t ∧ t < (pms.length:Int)) (.need ((List.length out + List.length [(List.getD pms (Int.toNat t) ((0:Int),(0:Int),(0:Int),false)).fst,(List.getD pms (Int.toNat t) ((0:Int),(0:Int),(0:Int),false)).snd.fst,(List.getD pms (Int.toNat t) ((0:Int),(0:Int),(0:Int),false)).snd.snd.fst,oneS (List.getD pms (Int.toNat t) ((0:Int),(0:Int),(0:Int),false)).snd.snd.snd]) * (8:Nat) ≤ (140737488355328:Nat)) (.leaf (Sum.inl (l,(),out ++ [(List.getD pms (Int.toNat t) ((0:Int),(0:Int),(0:Int),false)).fst,(List.getD pms (Int.toNat t) ((0:Int),(0:Int),(0:Int),false)).snd.fst,(List.getD pms (Int.toNat t) ((0:Int),(0:Int),(0:Int),false)).snd.snd.fst,oneS (List.getD pms (Int.toNat t) ((0:Int),(0:Int),(0:Int),false)).snd.snd.snd],pms,d,IntKind.i64.wrap (t + (1:Int)),b2_0,b2_1,b2_2,b2_3,b2_4,b2_5,b2_6,b2_7,b2_8,b2_9,()))))) (.leaf (Sum.inr (Exit.exit (6:Nat),Lay.st L_num6_0 noU (l,(),out,b2_0,b2_1,b2_2,b2_3,b2_4,b2_5,b2_6,b2_7,b2_8,b2_9,())))):=by kernel_rfl
def inv_num6:List (Int × (Int × (Int × V))) × Unit × List Int × List (Int × (Int × (Int × Bool))) × Int × Int × Int × Int × Int × Int × Int × List (Int × V) × List (List Int) × Int × List (Int × (Int × (Int × Bool))) × Int × Unit → Prop:=fun (l,(),out,pms,d,t,b2_0,b2_1,b2_2,b2_3,b2_4,b2_5,b2_6,b2_7,b2_8,b2_9,()) => d = pms.length ∧ 0 ≤ t ∧ t ≤ d ∧ pms.length ≤ 1000 ∧ (out.length:Int) ≤ 2000000 + 4 * t
def O_num6:List (Int × (Int × (Int × V))) × Unit × List Int × List (Int × (Int × (Int × Bool))) × Int × Int × Int × Int × Int × Int × Int × List (Int × V) × List (List Int) × Int × List (Int × (Int × (Int × Bool))) × Int × Unit → Tree (Exit × St):=fun (l,(),out,pms,d,t,b2_0,b2_1,b2_2,b2_3,b2_4,b2_5,b2_6,b2_7,b2_8,b2_9,()) => (.leaf (.exit 6,L_num6_0.st noU (l,(),(out ++ pmsN (pms.drop t.toNat)),b2_0,b2_1,b2_2,b2_3,b2_4,b2_5,b2_6,b2_7,b2_8,b2_9,())))
def R_num6:LRun:=runOf 142 L_num6 (fun x => x) (inv_num6) (O_num6)
theorem K_num6:LoopOk P [] 142 none noU C_num6 (R_num6):=by
  refine loop_of hm (cx:=[c_one.gc]) [] (xl:=X_num6) (α:=List (Int × (Int × (Int × V))) × Unit × List Int × List (Int × (Int × (Int × Bool))) × Int × Int × Int × Int × Int × Int × Int × List (Int × V) × List (List Int) × Int × List (Int × (Int × (Int × Bool))) × Int × Unit) (fun x => x) (fun (l,(),out,pms,d,t,b2_0,b2_1,b2_2,b2_3,b2_4,b2_5,b2_6,b2_7,b2_8,b2_9,()) => (d - t).toNat) (fun _ => rfl) (by kernel_rfl) (by kernel_rfl) ?_ (by kernel_rfl) trivial ?_
  · intro e S L' h
    unfold X_num6 at h
    split at h <;> first | (cases h; done) | (cases h; kernel_rfl) | (rcases bif_some h with h | h <;> cases h <;> kernel_rfl)
  · rintro ⟨l,⟨⟩,out,pms,d,t,b2_0,b2_1,b2_2,b2_3,b2_4,b2_5,b2_6,b2_7,b2_8,b2_9,⟨⟩⟩ hinv Q hQ
    refine hold_of_eq (B_num6 l out pms d t b2_0 b2_1 b2_2 b2_3 b2_4 b2_5 b2_6 b2_7 b2_8 b2_9) ?_
    obtain ⟨rfl,h0,h1,h2,h3⟩:=hinv
    rw [W_id (n:=t + 1) (by omega) (by omega)]
    unfold O_num6 at hQ
    dsimp only at hQ
    refine ⟨fun c1 => ?_,fun c1 => ?_⟩
    · have c1:=of_decide_eq_true c1
      rw [drop_step ((0,0,0,false):Pm) h0 c1,pmsN,show ∀ (x y:List Int) (a b c d:Int),x ++ a :: b :: c :: d :: y = x ++ [a,b,c,d] ++ y from fun x y a b c d => by simp] at hQ
      exact ⟨⟨h0,c1⟩,by simp only [List.length_cons,List.length_nil]; omega,⟨⟨rfl,by omega,by omega,h2,by simp only [List.length_append,List.length_cons,List.length_nil]; omega⟩,by show ((pms.length:Int) - (t + 1)).toNat < ((pms.length:Int) - t).toNat; omega⟩,hQ⟩
    · rw [drop_end (of_decide_eq_false c1),pmsN,List.append_nil] at hQ
      exact hQ
def L_num8:Lay:={ slots:=[(5,.row 2 tI),(119,.val (.sl (.pair tI (.pair tI (.pair tI tV))))),(120,.val tI),(121,.val tI)] }
def L_num8_0:Lay:={ slots:=[(5,.row 2 tI)] }
def X_num8:Exit → St → Option Lay
  | .exit 8,_ => some L_num8_0
  | _,_ => none
abbrev C_num8:Code:=loopC (bodyOf Tryz.f33) 8
theorem B_num8 (out:List Int) (es:List (Int × (Int × (Int × V)))) (f u:Int):loopBodyA (P:=P) [] (lpOf []) [] 142 noU (inner C_num8) L_num8 X_num8 (α:=List Int × List (Int × (Int × (Int × V))) × Int × Int × Unit) (fun x => x) (fun x => x) (out,es,f,u,()) =
  Tree.cond (decide (u < f)) (.need ((0:Int) ≤ u ∧ u < (es.length:Int)) (.need ((List.length out + List.length [(List.getD es (Int.toNat u) (0,0,0,0,0,0)).fst,(List.getD es (Int.toNat u) (0,0,0,0,0,0)).snd.fst,(List.getD es (Int.toNat u) (0,0,0,0,0,0)).snd.snd.fst,(List.getD es (Int.toNat u) (0,0,0,0,0,0)).snd.snd.snd.fst,(List.getD es (Int.toNat u) (0,0,0,0,0,0)).snd.snd.snd.snd.fst,(List.getD es (Int.toNat u) (0,0,0,0,0,0)).snd.snd.snd.snd.snd]) * (8:Nat) ≤ (140737488355328:Nat)) (.leaf (Sum.inl (out ++ [(List.getD es (Int.toNat u) (0,0,0,0,0,0)).fst,(List.getD es (Int.toNat u) (0,0,0,0,0,0)).snd.fst,(List.getD es (Int.toNat u) (0,0,0,0,0,0)).snd.snd.fst,(List.getD es (Int.toNat u) (0,0,0,0,0,0)).snd.snd.snd.fst,(List.getD es (Int.toNat u) (0,0,0,0,0,0)).snd.snd.snd.snd.fst,(List.getD es (Int.toNat u) (0,0,0,0,0,0)).snd.snd.snd.snd.snd],es,f,IntKind.i64.wrap (u + (1:Int)),()))))) (.leaf (Sum.inr (Exit.exit (8:Nat),Lay.st L_num8_0 noU (out,())))):=by kernel_rfl
def inv_num8:List Int × List (Int × (Int × (Int × V))) × Int × Int × Unit → Prop:=fun (out,es,f,u,()) => f = es.length ∧ 0 ≤ u ∧ u ≤ f ∧ es.length ≤ 1000 ∧ (out.length:Int) ≤ 3000000 + 6 * u
def O_num8:List Int × List (Int × (Int × (Int × V))) × Int × Int × Unit → Tree (Exit × St):=fun (out,es,f,u,()) => (.leaf (.exit 8,L_num8_0.st noU ((out ++ ensN (es.drop u.toNat)),())))
def R_num8:LRun:=runOf 142 L_num8 (fun x => x) (inv_num8) (O_num8)
theorem K_num8:LoopOk P [] 142 none noU C_num8 (R_num8):=by
  refine loop_of hm (cx:=[]) [] (xl:=X_num8) (α:=List Int × List (Int × (Int × (Int × V))) × Int × Int × Unit) (fun x => x) (fun (out,es,f,u,()) => (f - u).toNat) (fun _ => rfl) (by kernel_rfl) (by kernel_rfl) ?_ (by kernel_rfl) trivial ?_
  · intro e S L' h
    unfold X_num8 at h
    split at h <;> first | (cases h; done) | (cases h; kernel_rfl) | (rcases bif_some h with h | h <;> cases h <;> kernel_rfl)
  · rintro ⟨out,es,f,u,⟨⟩⟩ hinv Q hQ
    refine hold_of_eq (B_num8 out es f u) ?_
    obtain ⟨rfl,h0,h1,h2,h3⟩:=hinv
    rw [W_id (n:=u + 1) (by omega) (by omega)]
    unfold O_num8 at hQ
    dsimp only at hQ
    refine ⟨fun c1 => ?_,fun c1 => ?_⟩
    · have c1:=of_decide_eq_true c1
      rw [drop_step ((0,0,0,0,0,0):Entry) h0 c1,ensN,show ∀ (x y:List Int) (a b c d e f:Int),x ++ a :: b :: c :: d :: e :: f :: y = x ++ [a,b,c,d,e,f] ++ y from fun x y a b c d e f => by simp] at hQ
      exact ⟨⟨h0,c1⟩,by simp only [List.length_cons,List.length_nil]; omega,⟨⟨rfl,by omega,by omega,h2,by simp only [List.length_append,List.length_cons,List.length_nil]; omega⟩,by show ((es.length:Int) - (u + 1)).toNat < ((es.length:Int) - u).toNat; omega⟩,hQ⟩
    · rw [drop_end (of_decide_eq_false c1),ensN,List.append_nil] at hQ
      exact hQ
theorem T_numbers (s_0 s_1 s_2 s_3 s_4:Int) (s_5:List (Int × V)) (s_6:List (List Int)) (s_7:Int) (s_8:List (Int × (Int × (Int × Bool)))) (s_9:Int) (l:List (Int × (Int × (Int × V)))):fnTree (P:=P) [] (lpOf [(0,R_num0),(2,R_num2),(6,R_num6),(8,R_num8)]) Tryz.f33 (encL 0 [.agg (.pair tI (.pair tI (.pair tI (.pair tI (.pair tI (.pair (.pair (.sl (.pair tI tV)) (.pair (.sl tIs) tI)) (.pair (.sl (.pair tI (.pair tI (.pair tI .bool)))) tI))))))),.val (.sl (.pair tI (.pair tI (.pair tI tV))))] ((s_0,(s_1,(s_2,(s_3,(s_4,((s_5,(s_6,s_7)),(s_8,s_9))))))),l,())) =
  Tree.need (inv_num0 (l,(),[s_0,s_1,s_2,s_3,s_4,(s_5.length:Int)],s_5,(s_5.length:Int),(0:Int),s_0,s_1,s_2,s_3,s_4,s_5,s_6,s_7,s_8,s_9,())) (.need ((List.length ([s_0,s_1,s_2,s_3,s_4,(s_5.length:Int)] ++ elsN (List.drop (Int.toNat (0:Int)) s_5)) + List.length [(s_6.length:Int)]) * (8:Nat) ≤ (140737488355328:Nat)) (.need (inv_num2 (l,(),[s_0,s_1,s_2,s_3,s_4,(s_5.length:Int)] ++ elsN (List.drop (Int.toNat (0:Int)) s_5) ++ [(s_6.length:Int)],s_6,(s_6.length:Int),(0:Int),s_0,s_1,s_2,s_3,s_4,s_5,s_6,s_7,s_8,s_9,())) (.need ((List.length ([s_0,s_1,s_2,s_3,s_4,(s_5.length:Int)] ++ elsN (List.drop (Int.toNat (0:Int)) s_5) ++ [(s_6.length:Int)] ++ envsN (List.drop (Int.toNat (0:Int)) s_6)) + List.length [s_7,(s_8.length:Int)]) * (8:Nat) ≤ (140737488355328:Nat)) (.need (inv_num6 (l,(),[s_0,s_1,s_2,s_3,s_4,(s_5.length:Int)] ++ elsN (List.drop (Int.toNat (0:Int)) s_5) ++ [(s_6.length:Int)] ++ envsN (List.drop (Int.toNat (0:Int)) s_6) ++ [s_7,(s_8.length:Int)],s_8,(s_8.length:Int),(0:Int),s_0,s_1,s_2,s_3,s_4,s_5,s_6,s_7,s_8,s_9,())) (.need ((List.length ([s_0,s_1,s_2,s_3,s_4,(s_5.length:Int)] ++ elsN (List.drop (Int.toNat (0:Int)) s_5) ++ [(s_6.length:Int)] ++ envsN (List.drop (Int.toNat (0:Int)) s_6) ++ [s_7,(s_8.length:Int)] ++ pmsN (List.drop (Int.toNat (0:Int)) s_8)) + List.length [s_9,(l.length:Int)]) * (8:Nat) ≤ (140737488355328:Nat)) (.need (inv_num8 ([s_0,s_1,s_2,s_3,s_4,(s_5.length:Int)] ++ elsN (List.drop (Int.toNat (0:Int)) s_5) ++ [(s_6.length:Int)] ++ envsN (List.drop (Int.toNat (0:Int)) s_6) ++ [s_7,(s_8.length:Int)] ++ pmsN (List.drop (Int.toNat (0:Int)) s_8) ++ [s_9,(l.length:Int)],l,(l.length:Int),(0:Int),())) (.leaf (SV.sl (Ty.int IntKind.i64) ([s_0,s_1,s_2,s_3,s_4,(s_5.length:Int)] ++ elsN (List.drop (Int.toNat (0:Int)) s_5) ++ [(s_6.length:Int)] ++ envsN (List.drop (Int.toNat (0:Int)) s_6) ++ [s_7,(s_8.length:Int)] ++ pmsN (List.drop (Int.toNat (0:Int)) s_8) ++ [s_9,(l.length:Int)] ++ ensN (List.drop (Int.toNat (0:Int)) l)))))))))):=by kernel_rfl
def c_numbers:PC P:=PC.of (α:=(Int × (Int × (Int × (Int × (Int × ((List (Int × V) × (List (List Int) × Int)) × (List (Int × (Int × (Int × Bool))) × Int))))))) × List (Int × (Int × (Int × V))) × Unit) 33 [.agg (.pair tI (.pair tI (.pair tI (.pair tI (.pair tI (.pair (.pair (.sl (.pair tI tV)) (.pair (.sl tIs) tI)) (.pair (.sl (.pair tI (.pair tI (.pair tI .bool)))) tI))))))),.val (.sl (.pair tI (.pair tI (.pair tI tV))))] (fun x => x) (fun x => x) (fun _ => rfl)
  (fun x => some (sOk x.1 ∧ x.2.1.length ≤ 1000))
  (fun x => .sl tI (numsS x.1 x.2.1)) (by kernel_rfl) (by
    rintro ⟨⟨s_0,⟨s_1,⟨s_2,⟨s_3,⟨s_4,⟨⟨s_5,⟨s_6,s_7⟩⟩,⟨s_8,s_9⟩⟩⟩⟩⟩⟩⟩,l,⟨⟩⟩ hp
    refine fn_le hm (by kernel_rfl) (by kernel_rfl) (T_numbers s_0 s_1 s_2 s_3 s_4 s_5 s_6 s_7 s_8 s_9 l) ⟨K_num0,K_num2,K_num6,K_num8,trivial⟩ (by kernel_rfl) ?_
    try dsimp only at hp
    try dsimp only
    obtain ⟨⟨⟨p1,p2,p3⟩,p4⟩,p5⟩ : sOk (s_0,s_1,s_2,s_3,s_4,(s_5,s_6,s_7),s_8,s_9) ∧ l.length ≤ 1000:=hp
    dsimp only at p1 p2 p3 p4
    have e0:∀ {α:Type} (x:List α),List.drop (Int.toNat 0) x = x:=fun x => rfl
    rw [e0,e0,e0,e0]
    have l1:=elsN_len s_5
    have l2:=envsN_len s_6 p3
    have l3:=pmsN_len s_8
    refine ⟨⟨rfl,by decide,by omega,p1,by show ((6:Nat):Int) ≤ 10 + 4 * 0; decide⟩,?_,⟨rfl,by decide,by omega,p2,p3,?_⟩,?_,⟨rfl,by decide,by omega,p4,?_⟩,?_,⟨rfl,by decide,by omega,p5,?_⟩,rfl⟩
    all_goals
      simp only [List.length_append,List.length_cons,List.length_nil]
      omega)
end
end Go.MB
