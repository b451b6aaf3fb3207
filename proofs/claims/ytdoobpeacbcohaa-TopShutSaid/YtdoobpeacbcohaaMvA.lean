/- Strings: tubes, whether they are valid, lengths, weights. -/
import Derived.Test.YtdoobpeacbcohaaFw4
import Derived.Test.YtdoobpeacbcohaaMwK
namespace Go.MP
open Go Go.Sx Go.Proofs
set_option linter.unusedVariables false
set_option linter.unusedSimpArgs false
noncomputable section
abbrev tT:Ty:=.pair tI (.pair tI (.pair tI (.pair tI (.pair tI (.pair tI (.pair tI (.pair tI tI)))))))
abbrev tTs:Ty:=.sl tT
abbrev Tb:=Int × Int × Int × Int × Int × Int × Int × Int × Int
abbrev zT:Tb:=(0,0,0,0,0,0,0,0,0)
def ixS {α:Type} (p:α → Bool) (l:List α):Int:=if l.any p = true then (l.findIdx p:Int) else -1
theorem ixS_ge {α:Type} (p:α → Bool) (l:List α):decide (ixS p l ≥ 0) = l.any p:=by
  unfold ixS
  cases h:l.any p with
  | true => simp
  | false => simp
def ixR {α:Type} (p:α → Bool) (l:List α) (i:Int):Int:=i + ((l.drop i.toNat).findIdx p:Int)
theorem ix_step {α:Type} {p:α → Bool} {l:List α} {i:Int} (d:α) (h0:0 ≤ i) (h:i < l.length) :
    (l.drop i.toNat).any p = (p (l.getD i.toNat d) || (l.drop (i + 1).toNat).any p) ∧ (p (l.getD i.toNat d) = true → ixR p l i = i) ∧ (p (l.getD i.toNat d) = false → ixR p l i = ixR p l (i + 1)):=by
  have e:=drop_step d h0 h
  unfold ixR
  rw [e]
  refine ⟨rfl,fun hp => ?_,fun hp => ?_⟩
  · rw [List.findIdx_cons,hp]; simp
  · rw [List.findIdx_cons,hp]; simp only [cond_false]; omega
theorem mem_getD {α:Type} {d:α} {l:List α} {i:Int} (h0:0 ≤ i) (h:i < l.length):l.getD i.toNat d ∈ l:=by
  have h1:i.toNat < l.length:=by omega
  rw [List.getD_eq_getElem?_getD,List.getElem?_eq_getElem h1]
  exact List.getElem_mem h1
def wi (n a b:Int):Bool:=decide (a ≤ n) && decide (n ≤ b)
theorem wi_iff {n a b:Int}:wi n a b = true ↔ a ≤ n ∧ n ≤ b:=by unfold wi; simp
theorem T_twithin (n a b:Int):fnTree (P:=P) [] (lpOf []) Try.f38 (encL 0 [.val tI,.val tI,.val tI] (n,a,b,())) =
  Tree.cond (decide (a ≤ n)) (.leaf (SV.bool (decide (n ≤ b)))) (.leaf (SV.bool false)):=by kernel_rfl
def c_twithin:PC P:=PC.of (α:=Int × Int × Int × Unit) 38 [.val tI,.val tI,.val tI] (fun x => x) (fun x => x) (fun _ => rfl)
  (fun _ => none)
  (fun x => .bool (wi x.1 x.2.1 x.2.2.1)) (by kernel_rfl) (by
    rintro ⟨n,a,b,⟨⟩⟩ hp
    refine fn_of hm (by kernel_rfl) (by kernel_rfl) (T_twithin n a b) trivial ?_
    show Tree.holds (fun s => s = SV.bool (decide (a ≤ n) && decide (n ≤ b))) _
    refine ⟨fun h => ?_,fun h => ?_⟩
    · rw [h,Bool.true_and]; exact rfl
    · rw [h,Bool.false_and]; exact rfl)
def fairT (t:Tb):Bool:=wi t.1 1 400 && (wi t.2.1 100 4000 && (wi t.2.2.1 1 4000000 && (wi t.2.2.2.1 1 400 && (wi t.2.2.2.2.1 2 90 && (wi t.2.2.2.2.2.1 1 4398046511104 && (wi t.2.2.2.2.2.2.1 1 281474976710656 && (wi t.2.2.2.2.2.2.2.1 0 17179869184 && wi t.2.2.2.2.2.2.2.2 0 1099511627776)))))))
structure Fair (t:Tb):Prop where
  cnt:1 ≤ t.1 ∧ t.1 ≤ 400
  len:100 ≤ t.2.1 ∧ t.2.1 ≤ 4000
  air:1 ≤ t.2.2.1 ∧ t.2.2.1 ≤ 4000000
  ste:1 ≤ t.2.2.2.1 ∧ t.2.2.2.1 ≤ 400
  out:2 ≤ t.2.2.2.2.1 ∧ t.2.2.2.2.1 ≤ 90
  yld:1 ≤ t.2.2.2.2.2.1 ∧ t.2.2.2.2.2.1 ≤ 4398046511104
  twi:1 ≤ t.2.2.2.2.2.2.1 ∧ t.2.2.2.2.2.2.1 ≤ 281474976710656
  sti:0 ≤ t.2.2.2.2.2.2.2.1 ∧ t.2.2.2.2.2.2.2.1 ≤ 17179869184
  use:0 ≤ t.2.2.2.2.2.2.2.2 ∧ t.2.2.2.2.2.2.2.2 ≤ 1099511627776
theorem fair_iff {t:Tb}:fairT t = true ↔ Fair t:=by
  unfold fairT
  simp only [Bool.and_eq_true,wi_iff]
  exact ⟨fun ⟨h1,h2,h3,h4,h5,h6,h7,h8,h9⟩ => ⟨h1,h2,h3,h4,h5,h6,h7,h8,h9⟩,fun ⟨h1,h2,h3,h4,h5,h6,h7,h8,h9⟩ => ⟨h1,h2,h3,h4,h5,h6,h7,h8,h9⟩⟩
theorem T_tfair (c n a s o y w f u:Int):fnTree (P:=P) [c_twithin.gc] (lpOf []) Try.f42 (encL 0 [.agg tT] ((c,n,a,s,o,y,w,f,u),())) =
  Tree.cond (wi c (1:Int) (400:Int)) (.cond (wi n (100:Int) (4000:Int)) (.cond (wi a (1:Int) (4000000:Int)) (.cond (wi s (1:Int) (400:Int)) (.cond (wi o (2:Int) (90:Int)) (.cond (wi y (1:Int) (4398046511104:Int)) (.cond (wi w (1:Int) (281474976710656:Int)) (.cond (wi f (0:Int) (17179869184:Int)) (.leaf (SV.bool (wi u (0:Int) (1099511627776:Int)))) (.leaf (SV.bool false))) (.leaf (SV.bool false))) (.leaf (SV.bool false))) (.leaf (SV.bool false))) (.leaf (SV.bool false))) (.leaf (SV.bool false))) (.leaf (SV.bool false))) (.leaf (SV.bool false)):=by kernel_rfl
def c_tfair:PC P:=PC.of (α:=Tb × Unit) 42 [.agg tT] (fun x => x) (fun x => x) (fun _ => rfl)
  (fun _ => none)
  (fun x => .bool (fairT x.1)) (by kernel_rfl) (by
    rintro ⟨⟨c,n,a,s,o,y,w,f,u⟩,⟨⟩⟩ hp
    refine fn_of hm (by kernel_rfl) (by kernel_rfl) (T_tfair c n a s o y w f u) trivial ?_
    show Tree.holds (fun r => r = SV.bool (fairT (c,n,a,s,o,y,w,f,u))) _
    unfold fairT
    refine ⟨fun a1 => ⟨fun a2 => ⟨fun a3 => ⟨fun a4 => ⟨fun a5 => ⟨fun a6 => ⟨fun a7 => ⟨fun a8 => ?_,fun a8 => ?_⟩,fun a7 => ?_⟩,fun a6 => ?_⟩,fun a5 => ?_⟩,fun a4 => ?_⟩,fun a3 => ?_⟩,fun a2 => ?_⟩,fun a1 => ?_⟩
    all_goals (show SV.bool _ = SV.bool _; simp only [*,Bool.true_and,Bool.false_and]))
def badT (t:Tb):Bool:=!fairT t
theorem T_tchk1 (c n a s o y w f u:Int):fnTree (P:=P) [c_tfair.gc] (lpOf []) Try.f41 (encL 0 [.agg tT] ((c,n,a,s,o,y,w,f,u),())) =
  Tree.leaf (SV.bool !fairT (c,n,a,s,o,y,w,f,u)):=by kernel_rfl
def c_tchk1:PC P:=PC.of (α:=Tb × Unit) 41 [.agg tT] (fun x => x) (fun x => x) (fun _ => rfl)
  (fun _ => none)
  (fun x => .bool (badT x.1)) (by kernel_rfl) (by
    rintro ⟨⟨c,n,a,s,o,y,w,f,u⟩,⟨⟩⟩ hp
    refine fn_of hm (by kernel_rfl) (by kernel_rfl) (T_tchk1 c n a s o y w f u) trivial ?_
    exact rfl)
def L_ixT0:Lay:={ slots:=[(0,.val (.sl tT)),(1,.fn 41)] }
def L_ixTL:Lay:={ slots:=[(0,.val (.sl tT)),(1,.fn 41),(7,.val tI),(8,.val tI)] }
def L_ixTL_0:Lay:={ slots:=[] }
def L_ixTL_1:Lay:={ slots:=[(4,.val tI)] }
def X_ixTL:Exit → St → Option Lay
  | .exit 0,_ => some L_ixTL_0
  | .ret,_ => some L_ixTL_1
  | _,_ => none
abbrev C_ixTL:Code:=loopC (bodyOf Try.f62) 0
theorem B_ixTL (l:List Tb) (n i:Int):loopBodyA (P:=P) [c_tchk1.gc] (lpOf []) [] 19 (usd noU (L_ixT0.ids ++ rowIds rowBase L_ixT0.shs)) (inner C_ixTL) L_ixTL X_ixTL (α:=List Tb × Unit × Int × Int × Unit) (fun x => x) (fun x => x) (l,(),n,i,()) =
  Tree.cond (decide (i < n)) (.need ((0:Int) ≤ i ∧ i < (l.length:Int)) (.cond (badT (List.getD l (Int.toNat i) (0,0,0,0,0,0,0,0,0))) (.leaf (Sum.inr (Exit.ret,Lay.st L_ixTL_1 (usd noU (Lay.ids L_ixT0 ++ rowIds rowBase (Lay.shs L_ixT0))) (i,())))) (.leaf (Sum.inl (l,(),n,IntKind.i64.wrap (i + (1:Int)),()))))) (.leaf (Sum.inr (Exit.exit (0:Nat),Lay.st L_ixTL_0 (usd noU (Lay.ids L_ixT0 ++ rowIds rowBase (Lay.shs L_ixT0))) ()))):=by kernel_rfl
def inv_ixTL:List Tb × Unit × Int × Int × Unit → Prop:=fun (l,_,n,i,_) => n = l.length ∧ 0 ≤ i ∧ i ≤ n ∧ (l.length:Int) < 2 ^ 62
def O_ixTL:List Tb × Unit × Int × Int × Unit → Tree (Exit × St):=fun (l,_,n,i,_) => .cond ((l.drop i.toNat).any (badT)) (.leaf (.ret,L_ixTL_1.st (usd noU (L_ixT0.ids ++ rowIds rowBase L_ixT0.shs)) (ixR (badT) l i,()))) (.leaf (.exit 0,L_ixTL_0.st (usd noU (L_ixT0.ids ++ rowIds rowBase L_ixT0.shs)) ()))
def R_ixTL:LRun:=runOf 19 L_ixTL (fun x => x) (inv_ixTL) (O_ixTL)
theorem K_ixTL:LoopOk P [] 19 none (usd noU (L_ixT0.ids ++ rowIds rowBase L_ixT0.shs)) C_ixTL (R_ixTL):=by
  refine loop_of hm (cx:=[c_tchk1.gc]) [] (xl:=X_ixTL) (α:=List Tb × Unit × Int × Int × Unit) (fun x => x) (fun (l,_,n,i,_) => (n - i).toNat) (fun _ => rfl) (by kernel_rfl) (by kernel_rfl) ?_ (by kernel_rfl) trivial ?_
  · intro e S L' h
    unfold X_ixTL at h
    split at h <;> first | (cases h; done) | (cases h; kernel_rfl) | (rcases bif_some h with h | h <;> cases h <;> kernel_rfl)
  · rintro ⟨l,⟨⟩,n,i,⟨⟩⟩ hinv Q hQ
    refine hold_of_eq (B_ixTL l n i) ?_
    obtain ⟨rfl,h0,h1,h2⟩:=hinv
    rw [W_id (n:=i + 1) (by omega) (by omega)]
    unfold O_ixTL at hQ
    dsimp only at hQ
    refine ⟨fun hi => ?_,fun hi => ?_⟩
    · simp only [decide_eq_true_eq] at hi
      have hm:((l.length:Int) - (i + 1)).toNat < ((l.length:Int) - i).toNat:=by omega
      obtain ⟨e1,e2,e3⟩:=ix_step (p:=badT) (zT:Tb) h0 hi
      rw [e1] at hQ
      refine ⟨⟨h0,hi⟩,fun hp => ?_,fun hp => ?_⟩
      · replace hp:(badT) (l.getD i.toNat (zT:Tb)) = true:=hp
        rw [hp,Bool.true_or,e2 hp] at hQ
        exact hQ.1 rfl
      · replace hp:(badT) (l.getD i.toNat (zT:Tb)) = false:=hp
        rw [hp,Bool.false_or,e3 hp] at hQ
        exact ⟨⟨⟨rfl,by omega,by omega,h2⟩,hm⟩,hQ⟩
    · simp only [decide_eq_false_iff_not] at hi
      rw [drop_end hi] at hQ
      exact hQ.2 rfl
def L_ixT:Lay:={ slots:=[(0,.val (.sl tT)),(1,.fn 41)] }
theorem T_ixT (l:List Tb):mTree (P:=P) [] (lpOf [(0,R_ixTL)]) Try.f62 L_ixT true (l,(),()) =
  Tree.need (inv_ixTL (l,(),(l.length:Int),(0:Int),())) (.cond (List.any (List.drop (Int.toNat (0:Int)) l) badT) (.leaf { res:=SV.int IntKind.i64 (ixR badT l (0:Int)),boxes:=[] }) (.leaf { res:=SV.int IntKind.i64 (-1:Int),boxes:=[] })):=by kernel_rfl
def c_ixT:MC P:=MC.of (α:=List Tb × Unit × Unit) 62 L_ixT (fun x => x) (fun x => x) (fun _ => rfl)
  (fun (l,_,_) => some ((l.length:Int) < 2 ^ 62))
  (fun (l,_,_) => ⟨.int .i64 (ixS (badT) l),[],[]⟩) (by kernel_rfl) (by kernel_rfl) (by kernel_rfl) (by
    rintro ⟨l,⟨⟩,⟨⟩⟩ hp
    refine m_of hm (own:=true) (by kernel_rfl) (by kernel_rfl) (by kernel_rfl) (T_ixT l) ⟨K_ixTL,trivial⟩ ?_
    refine ⟨⟨rfl,by omega,by omega,hp⟩,fun h => ?_,fun h => ?_⟩
    · simp only [Int.toNat_zero,List.drop_zero] at h
      have e:ixR (badT) l 0 = ixS (badT) l:=by
        unfold ixS ixR
        rw [if_pos h]
        simp only [Int.toNat_zero,List.drop_zero,Int.zero_add]
      exact congrArg (fun k:Int => (⟨.int .i64 k,[],[]⟩ : MOut)) e
    · simp only [Int.toNat_zero,List.drop_zero] at h
      have e : -1 = ixS (badT) l:=by
        unfold ixS
        rw [if_neg (by simp only [h]; decide)]
      exact congrArg (fun k:Int => (⟨.int .i64 k,[],[]⟩ : MOut)) e)
def L_ixTC:Lay:={ slots:=[(0,.val (.sl tT)),(1,.fn 41)] }
theorem T_ixTC (l:List Tb):mTree (P:=P) [c_ixT.gc] (lpOf []) Try.f40 L_ixTC true (l,(),()) =
  Tree.need ((l.length:Int) < (2:Int) ^ (62:Nat)) (.leaf { res:=SV.bool (decide (ixS badT l ≥ (0:Int))),boxes:=[] }):=by kernel_rfl
def c_ixTC:MC P:=MC.of (α:=List Tb × Unit × Unit) 40 L_ixTC (fun x => x) (fun x => x) (fun _ => rfl)
  (fun (l,_,_) => some ((l.length:Int) < 2 ^ 62))
  (fun (l,_,_) => ⟨.bool (l.any (badT)),[],[]⟩) (by kernel_rfl) (by kernel_rfl) (by kernel_rfl) (by
    rintro ⟨l,⟨⟩,⟨⟩⟩ hp
    refine m_of hm (own:=true) (by kernel_rfl) (by kernel_rfl) (by kernel_rfl) (T_ixTC l) trivial ?_
    exact ⟨hp,congrArg (fun k:Bool => (⟨.bool k,[],[]⟩ : MOut)) (ixS_ge (badT) l)⟩)
def sumT:List Tb → Int
  | [] => 0
  | t :: r => t.1 * t.2.1 + sumT r
def AllF (l:List Tb):Prop:=∀ t ∈ l,Fair t
theorem AllF.of_any {l:List Tb} (h:l.any badT = false):AllF l:=by
  intro t ht
  rw [← fair_iff]
  have:=List.any_eq_false.1 h t ht
  unfold badT at this
  simpa using this
theorem AllF.any {l:List Tb} (h:AllF l):l.any badT = false:=by
  rw [List.any_eq_false]
  intro t ht
  unfold badT
  rw [fair_iff.2 (h t ht)]
  decide
theorem AllF.drop {l:List Tb} (h:AllF l) (n:Nat):AllF (l.drop n):=fun t ht => h t (List.mem_of_mem_drop ht)
theorem mul_rng {a b A B:Int} (h1:0 ≤ a) (h2:a ≤ A) (h3:0 ≤ b) (h4:b ≤ B):0 ≤ a * b ∧ a * b ≤ A * B :=
  ⟨Int.mul_nonneg h1 h3,Int.mul_le_mul h2 h4 h3 (by omega)⟩
theorem Fair.prod {t:Tb} (h:Fair t):100 ≤ t.1 * t.2.1 ∧ t.1 * t.2.1 ≤ 1600000:=by
  obtain ⟨a,b⟩:=h.cnt
  obtain ⟨c,d⟩:=h.len
  have h1:=(mul_rng (a:=t.1) (b:=t.2.1) (by omega) b (by omega) d).2
  have h2:1 * 100 ≤ t.1 * t.2.1:=Int.mul_le_mul a c (by decide) (by omega)
  omega
def checkT (l:List Tb):Int:=if l.length = 0 then 6 else if l.length > 8 then 8 else if l.any badT = true then 2 else if sumT l > 1048576 then 5 else 0
theorem checkT_ok {l:List Tb} (h:checkT l = 0):l.length ≠ 0 ∧ l.length ≤ 8 ∧ AllF l ∧ sumT l ≤ 1048576:=by
  unfold checkT at h
  split at h
  · cases h
  split at h
  · cases h
  split at h
  · cases h
  split at h
  · cases h
  rename_i h1 h2 h3 h4
  exact ⟨h1,by omega,AllF.of_any (by simpa using h3),by omega⟩
def stepsJ:Nat → Int → Int → List Int
  | 0,_,_ => []
  | k + 1,a,d => (a + d) :: stepsJ k (a + d) d
def jntL:Int → List Tb → List Int
  | _,[] => []
  | a,t :: r => stepsJ t.1.toNat a t.2.1 ++ jntL (a + t.1 * t.2.1) r
def jntT (l:List Tb):List Int:=if checkT l = 0 then 0 :: jntL 0 l else []
theorem stepsJ_len:∀ (k:Nat) (a d:Int),(stepsJ k a d).length = k
  | 0,_,_ => rfl
  | k + 1,a,d => by rw [stepsJ,List.length_cons,stepsJ_len k]
theorem jntL_len (l:List Tb):AllF l → ∀ a,((jntL a l).length:Int) ≤ 400 * l.length:=by
  induction l with
  | nil => intro _ a; simp [jntL]
  | cons t r ih =>
    intro h a
    have h2:=(h t (by simp)).cnt
    have h3:=ih (fun t ht => h t (by simp [ht])) (a + t.1 * t.2.1)
    rw [jntL,List.length_append,stepsJ_len,List.length_cons]
    omega
end
end Go.MP
