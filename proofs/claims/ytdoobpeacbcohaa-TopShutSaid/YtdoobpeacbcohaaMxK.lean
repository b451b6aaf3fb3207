/- Rigs: the best move: the moves in turn, the allowed ones of them, the first that is good enough. -/
import Derived.Test.YtdoobpeacbcohaaMxJ
namespace Go.MR
open Go Go.Sx Go.Proofs
set_option linter.unusedVariables false
set_option linter.unusedSimpArgs false
noncomputable section
def L_allowed:Lay:={ slots:=[(0,.agg (.pair tIs (.sl (.pair tI (.pair tI (.pair tI tV)))))),(1,.val tIs)] }
theorem T_allowed (s0_0:List Int) (s0_1:List (Int × (Int × (Int × V)))) (s1:List Int):mTree (P:=P) [] (lpOf []) Try.f49 L_allowed true ((s0_0,s0_1),s1,()) =
  Tree.leaf { res:=SV.fn (73:Nat) [SV.ptr (nat_lit 100) (0:Nat),SV.ptr (nat_lit 101) (0:Nat)],boxes:=[],news:=[Ob.box [SV.sl tI s1],Ob.box [SV.sl tI s0_0,SV.sl (Ty.pair tI (Ty.pair tI (Ty.pair tI tV))) s0_1]] }:=by kernel_rfl
def c_allowed:MC P:=MC.of (α:=(List Int × List (Int × (Int × (Int × V)))) × List Int × Unit) 49 L_allowed (fun x => x) (fun x => x) (fun _ => rfl)
  (fun _ => none)
  (fun x => ⟨.fn 73 [.ptr 100 0,.ptr 101 0],[],[.box [.sl tI x.2.1],.box [.sl tI x.1.1,.sl tBan x.1.2]]⟩) (by kernel_rfl) (by kernel_rfl) (by kernel_rfl) (by
    rintro ⟨⟨s0_0,s0_1⟩,s1,⟨⟩⟩ hp
    refine m_of hm (own:=true) (by kernel_rfl) (by kernel_rfl) (by kernel_rfl) (T_allowed s0_0 s0_1 s1) trivial ?_
    exact rfl)
def L_all:Lay:={ slots:=[(0,.val tI)] }
theorem T_all (s0:Int):mTree (P:=P) [] (lpOf []) Try.f74 L_all true (s0,()) =
  Tree.leaf { res:=SV.fn (84:Nat) [SV.ptr (nat_lit 100) (0:Nat)],boxes:=[],news:=[Ob.box [SV.int IntKind.i64 s0]] }:=by kernel_rfl
def c_all:MC P:=MC.of (α:=Int × Unit) 74 L_all (fun x => x) (fun x => x) (fun _ => rfl)
  (fun _ => none)
  (fun x => ⟨.fn 84 [.ptr 100 0],[],[.box [.int .i64 x.1]]⟩) (by kernel_rfl) (by kernel_rfl) (by kernel_rfl) (by
    rintro ⟨s0,⟨⟩⟩ hp
    refine m_of hm (own:=true) (by kernel_rfl) (by kernel_rfl) (by kernel_rfl) (T_all s0) trivial ?_
    exact rfl)
def allM:Nat → List (List Int)
  | 0 => [[]]
  | n + 1 => (allM n).map (-1 :: ·) ++ ((allM n).map (0 :: ·) ++ (allM n).map (1 :: ·))
def restM:List Int → List (List Int)
  | [] => [[]]
  | x :: m => (restM m).map (x :: ·) ++ (if x = -1 then (allM m.length).map (0 :: ·) ++ (allM m.length).map (1 :: ·) else if x = 0 then (allM m.length).map (1 :: ·) else [])
def nxtM:List Int → Option (List Int)
  | [] => none
  | x :: m => match nxtM m with
    | some m' => some (x :: m')
    | none => if x = 1 then none else some ((x + 1) :: List.replicate m.length (-1))
def isM (m:List Int):Prop:=∀ x ∈ m,x = -1 ∨ x = 0 ∨ x = 1
theorem isM_rep (n:Nat):isM (List.replicate n (-1)):=fun x hx => .inl (List.eq_of_mem_replicate hx)
theorem restM_rep:∀ n:Nat,restM (List.replicate n (-1)) = allM n
  | 0 => rfl
  | n + 1 => by
    rw [List.replicate_succ,restM,if_pos rfl,restM_rep n,List.length_replicate,allM]
theorem nxtM_len:∀ {m m' : List Int},nxtM m = some m' → m'.length = m.length
  | [],m',h => by cases h
  | x :: m,m',h => by
    rw [nxtM] at h
    split at h
    · rename_i m1 h1
      cases h
      simp [nxtM_len h1]
    · split at h
      · cases h
      · cases h; simp
theorem nxtM_is:∀ {m m' : List Int},isM m → nxtM m = some m' → isM m'
  | [],m',_,h => by cases h
  | x :: m,m',hm,h => by
    rw [nxtM] at h
    have hx:=hm x (by simp)
    have hm' : isM m:=fun y hy => hm y (List.mem_cons_of_mem _ hy)
    split at h
    · rename_i m1 h1
      cases h
      intro y hy
      rcases List.mem_cons.1 hy with rfl | hy
      · exact hx
      · exact nxtM_is hm' h1 y hy
    · split at h
      · cases h
      · cases h
        intro y hy
        rcases List.mem_cons.1 hy with rfl | hy
        · omega
        · exact .inl (List.eq_of_mem_replicate hy)
theorem restM_step:∀ {m:List Int},isM m → restM m = m :: (match nxtM m with | some m' => restM m' | none => [])
  | [],_ => rfl
  | x :: m,hm => by
    have hx:=hm x (by simp)
    have hm' : isM m:=fun y hy => hm y (List.mem_cons_of_mem _ hy)
    rw [restM,restM_step hm',nxtM]
    cases h:nxtM m with
    | some m' =>
      dsimp only
      rw [List.map_cons,List.cons_append,restM,nxtM_len h]
    | none =>
      dsimp only
      rw [List.map_cons,List.map_nil,List.cons_append,List.nil_append]
      rcases hx with rfl | rfl | rfl
      · rw [if_pos rfl,if_neg (by decide)]
        dsimp only
        rw [show (-1:Int) + 1 = 0 by decide,restM,restM_rep,if_neg (by decide),if_pos rfl,List.length_replicate]
      · rw [if_neg (by decide),if_pos rfl,if_neg (by decide)]
        dsimp only
        rw [show (0:Int) + 1 = 1 by decide,restM,restM_rep,if_neg (by decide),if_neg (by decide),List.append_nil]
      · rw [if_neg (by decide),if_neg (by decide),if_pos rfl]
def cryS (m:List Int):Nat → List Int × Int
  | 0 => (m,-1)
  | k + 1 => if m.getD k 0 = 1 then cryS (m.set k (-1)) k else (m,(k:Int))
theorem cryS_step {m:List Int} {k:Int} (h0:0 ≤ k):cryS m (k + 1).toNat = if m.getD k.toNat 0 = 1 then cryS (m.set k.toNat (-1)) k.toNat else (m,k):=by
  rw [show (k + 1).toNat = k.toNat + 1 by omega,cryS]
  split
  · rfl
  · rw [show ((k.toNat:Nat):Int) = k by omega]
theorem cryS_cons:∀ (k:Nat) (x:Int) (m:List Int),k ≤ m.length → cryS (x :: m) (k + 1) = if (cryS m k).2 < 0 then (if x = 1 then (-1 :: (cryS m k).1,-1) else (x :: (cryS m k).1,0)) else (x :: (cryS m k).1,(cryS m k).2 + 1)
  | 0,x,m,_ => by
    rw [cryS,cryS]
    show (if x = 1 then cryS (-1 :: m) 0 else (x :: m,((0:Nat):Int))) = _
    rw [if_pos (show (-1:Int) < 0 by decide),cryS]
    rfl
  | k + 1,x,m,h => by
    rw [cryS]
    have e:(x :: m).getD (k + 1) 0 = m.getD k 0:=rfl
    rw [e]
    by_cases c:m.getD k 0 = 1
    · rw [if_pos c]
      have e2:(x :: m).set (k + 1) (-1) = x :: m.set k (-1):=rfl
      rw [e2,cryS_cons k x (m.set k (-1)) (by rw [List.length_set]; omega)]
      have e3:cryS m (k + 1) = cryS (m.set k (-1)) k:=by rw [cryS,if_pos c]
      rw [e3]
    · rw [if_neg c]
      have e3:cryS m (k + 1) = (m,(k:Int)):=by rw [cryS,if_neg c]
      rw [e3,if_neg (by show ¬ (k:Int) < 0; omega)]
      rfl
theorem cryS_len:∀ (k:Nat) (m:List Int),(cryS m k).1.length = m.length
  | 0,m => rfl
  | k + 1,m => by
    rw [cryS]
    split
    · rw [cryS_len k,List.length_set]
    · rfl
theorem cryS_rng:∀ (k:Nat) (m:List Int),-1 ≤ (cryS m k).2 ∧ (cryS m k).2 < k
  | 0,m => ⟨by show (-1:Int) ≤ -1; omega,by show (-1:Int) < 0; omega⟩
  | k + 1,m => by
    rw [cryS]
    split
    · have:=cryS_rng k (m.set k (-1)); omega
    · show -1 ≤ (k:Int) ∧ (k:Int) < ((k + 1:Nat):Int); omega
theorem cryS_nxt:∀ {m:List Int},isM m → (match nxtM m with
    | none => (cryS m m.length).2 < 0 ∧ (cryS m m.length).1 = List.replicate m.length (-1)
    | some m' => 0 ≤ (cryS m m.length).2 ∧ (cryS m m.length).1.set (cryS m m.length).2.toNat ((cryS m m.length).1.getD (cryS m m.length).2.toNat 0 + 1) = m')
  | [],_ => ⟨by show (-1:Int) < 0; omega,rfl⟩
  | x :: m,hm => by
    have hm' : isM m:=fun y hy => hm y (List.mem_cons_of_mem _ hy)
    have ih:=cryS_nxt hm'
    rw [nxtM,show (x :: m).length = m.length + 1 from rfl,cryS_cons m.length x m (Nat.le_refl _)]
    cases h:nxtM m with
    | some m' =>
      rw [h] at ih
      dsimp only at ih ⊢
      rw [if_neg (by omega)]
      refine ⟨by show 0 ≤ (cryS m m.length).2 + 1; omega,?_⟩
      show (x :: (cryS m m.length).1).set ((cryS m m.length).2 + 1).toNat ((x :: (cryS m m.length).1).getD ((cryS m m.length).2 + 1).toNat 0 + 1) = x :: m'
      rw [show ((cryS m m.length).2 + 1).toNat = (cryS m m.length).2.toNat + 1 by omega]
      show x :: (cryS m m.length).1.set (cryS m m.length).2.toNat ((cryS m m.length).1.getD (cryS m m.length).2.toNat 0 + 1) = x :: m'
      rw [ih.2]
    | none =>
      rw [h] at ih
      dsimp only at ih ⊢
      rw [if_pos ih.1,ih.2]
      by_cases c:x = 1
      · rw [if_pos c,if_pos c]
        exact ⟨by show (-1:Int) < 0; omega,rfl⟩
      · rw [if_neg c,if_neg c]
        exact ⟨by show (0:Int) ≤ 0; omega,rfl⟩
theorem getD_is {m:List Int} (h:isM m) (k:Nat) : -1 ≤ m.getD k 0 ∧ m.getD k 0 ≤ 1:=by
  by_cases hk:k < m.length
  · have:=h _ (getD_mem (d:=(0:Int)) hk); omega
  · rw [List.getD_eq_getElem?_getD,List.getElem?_eq_none (by omega)]; simp
theorem set_is {m:List Int} (h:isM m) (k:Nat) {v:Int} (hv:v = -1 ∨ v = 0 ∨ v = 1):isM (m.set k v):=by
  intro x hx
  rcases List.mem_or_eq_of_mem_set hx with hx | rfl
  · exact h x hx
  · exact hv
theorem cryS_is:∀ (k:Nat) {m:List Int},isM m → isM (cryS m k).1
  | 0,m,h => h
  | k + 1,m,h => by
    rw [cryS]
    split
    · exact cryS_is k (set_is h k (.inl rfl))
    · exact h
def okM (ps:List Int) (bs:List Ban) (s m:List Int):Bool:=(waysS s m ps).2 && decide (ixS (banS (waysS s m ps).1) bs < 0)
def takeM (ps:List Int) (bs:List Ban) (tk s:List Int) (losses t:Int) (m:List Int):Bool:=okM ps bs s m && reachS ps tk s m losses t
def firstM (p:List Int → Bool) (l:List (List Int)):List Int:=(l.find? p).getD []
def bestS (ps:List Int) (bs:List Ban) (tk s:List Int) (losses t:Int):List Int:=firstM (takeM ps bs tk s losses t) (allM s.length)
def fillS (m:List Int) (i:Int):List Int:=m.take i.toNat ++ List.replicate (m.length - i.toNat) (-1)
theorem fill_step {m:List Int} {i:Int} (h0:0 ≤ i) (h:i < m.length):fillS (m.set i.toNat (-1)) (i + 1) = fillS m i:=by
  have h1:i.toNat < m.length:=by omega
  unfold fillS
  rw [List.length_set,show (i + 1).toNat = i.toNat + 1 by omega,List.take_add_one,List.take_set_of_le (Nat.le_refl _),List.getElem?_set_self h1,Option.toList_some,List.append_assoc,show m.length - i.toNat = (m.length - (i.toNat + 1)) + 1 by omega,List.replicate_succ]
  rfl
theorem fill_end {m:List Int} {i:Int} (h:¬ i < m.length):fillS m i = m:=by
  unfold fillS
  rw [List.take_of_length_le (by omega),show m.length - i.toNat = 0 by omega,List.replicate_zero,List.append_nil]
theorem fill_rep (n:Nat):fillS (List.replicate n 0) 0 = List.replicate n (-1):=by
  unfold fillS
  simp
structure StOk (ps:List Int) (bs:List Ban) (s:List Int):Prop where
  l2:2 ≤ ps.length
  l4:ps.length ≤ 4
  pb:ps.any badP = false
  sl:s.length = ps.length
  si:inR s ps = true
  bl:bs.length ≤ 24
  bk:∀ b ∈ bs,okB ps.length b
theorem waysS_ok {s m ps:List Int} (h:(waysS s m ps).2 = true):wayOk s m ps = true:=by
  unfold waysS at h
  split at h
  · assumption
  · cases h
theorem StOk.r {ps:List Int} {bs:List Ban} {s m:List Int} (h:StOk ps bs s) (hl:m.length = ps.length) (hw:(waysS s m ps).2 = true):OkR ps s m:=⟨h.l2,h.l4,h.pb,h.sl,hl,h.si,waysS_ok hw⟩
theorem firstM_yes {p:List Int → Bool} {m:List Int} {l:List (List Int)} (h:p m = true):firstM p (m :: l) = m:=by
  unfold firstM; rw [List.find?_cons_of_pos h]; rfl
theorem firstM_no {p:List Int → Bool} {m:List Int} {l:List (List Int)} (h:p m = false):firstM p (m :: l) = firstM p l:=by
  unfold firstM; rw [List.find?_cons_of_neg (by rw [h]; decide)]
def L_best:Lay:={ slots:=[(4,.ptr 5025 0),(5,.ptr 6025 0),(6,.ptr 7025 0),(7,.ptr 8025 0),(8,.ptr 9025 0),(15,.clo 73 [(16025,0),(16026,0)])],boxes:=[(5025,[.adr tTab]),(6025,[.val tIs]),(7025,[.val tI]),(8025,[.val (.int .i8)]),(9025,[.nils]),(16025,[.val tIs]),(16026,[.val tIs,.val (.sl tBan)])] }
def L_best_0:Lay:={ slots:=[(8,.ptr 9025 0)],boxes:=[(9025,[.nils])] }
def L_best_1:Lay:={ slots:=[(8,.ptr 9025 0)],boxes:=[(9025,[.row 3 tI])] }
def X_best:Exit → St → Option Lay
  | .normal,_ => some L_best_0
  | .ret,_ => some L_best_1
  | _,_ => none
abbrev C_best:Code:=loopC (bodyOf Try.f26) 0
abbrev A_best:Type:=Unit × Unit × Unit × Unit × Unit × Unit × Tab × List Int × Int × Int × Unit × List Int × List Int × List Ban × Unit
abbrev Y_best (a:A_best):List YH:=[⟨990,roundRun (P:=P) [c_reaches.gc,c_clone.gc,c_all.gc] [] 25 990 (L_best.st noU a).tmps (rgPs C_best).toList (rgAssign C_best) (rgBody C_best)⟩]
abbrev U_best (a:A_best):Nat → Bool:=apU (L_best.st noU a).used [990]
def L_allw:Lay:={ slots:=[(1,.ptr 16025 0),(2,.ptr 16026 0),(3,.ptr 4031 0),(9,.clo 84 [(10031,0)])],boxes:=[(5025,[.adr tTab]),(6025,[.val tIs]),(7025,[.val tI]),(8025,[.val (.int .i8)]),(9025,[.nils]),(16025,[.val tIs]),(16026,[.val tIs,.val (.sl tBan)]),(4031,[.yld 990]),(10031,[.val tI])],recs:=[(990,.ready)] }
def L_allw_0:Lay:={ slots:=[],boxes:=[(9025,[.nils])],recs:=[(990,.ready)] }
def L_allw_1:Lay:={ slots:=[],boxes:=[(9025,[.row 3 tI])],recs:=[(990,.done .ret)] }
def X_allw:Exit → St → Option Lay
  | .normal,_ => some L_allw_0
  | .ret,_ => some L_allw_1
  | _,_ => none
abbrev C_allw:Code:=loopC (bodyOf Try.f73) 0
abbrev A_allw:Type:=Unit × Unit × Unit × Unit × Tab × List Int × Int × Int × Unit × List Int × List Int × List Ban × Unit × Int × Unit
abbrev Y_allw (q:A_best) (a:A_allw):List YH:=[⟨991,roundRun (P:=P) [c_ways.gc,c_bans.gc] (Y_best q) 31 991 (L_allw.st (U_best q) a).tmps (rgPs C_allw).toList (rgAssign C_allw) (rgBody C_allw)⟩]
abbrev U_allw (q:A_best) (a:A_allw):Nat → Bool:=apU (L_allw.st (U_best q) a).used [991]
def L_all0:Lay:={ slots:=[(0,.yld 991),(1,.ptr 10031 0),(3,.row 3 tI),(9,.val tI),(10,.val tI)],boxes:=[(5025,[.adr tTab]),(6025,[.val tIs]),(7025,[.val tI]),(8025,[.val (.int .i8)]),(9025,[.nils]),(16025,[.val tIs]),(16026,[.val tIs,.val (.sl tBan)]),(4031,[.yld 990]),(10031,[.val tI])],recs:=[(990,.ready),(991,.ready)] }
def L_all0_0:Lay:={ slots:=[(0,.yld 991),(1,.ptr 10031 0),(3,.row 3 tI)],boxes:=[(5025,[.adr tTab]),(6025,[.val tIs]),(7025,[.val tI]),(8025,[.val (.int .i8)]),(9025,[.nils]),(16025,[.val tIs]),(16026,[.val tIs,.val (.sl tBan)]),(4031,[.yld 990]),(10031,[.val tI])],recs:=[(990,.ready),(991,.ready)] }
def X_all0:Exit → St → Option Lay
  | .exit 0,_ => some L_all0_0
  | _,_ => none
abbrev C_all0:Code:=loopC (bodyOf Try.f84) 0
theorem B_all0 (q:A_best) (p:A_allw) (m:List Int) (n i:Int) (ps:List Int) (bs:List Ban) (tk:List Int) (sf:List Bool) (mn:Int) (s:List Int) (losses t:Int) (s' ps' : List Int) (bs' : List Ban) (mc:Int):loopBodyA (P:=P) [] (lpOf []) (Y_allw q p) 45 (U_allw q p) (inner C_all0) L_all0 X_all0 (α:=Unit × Unit × List Int × Int × Int × Tab × List Int × Int × Int × Unit × List Int × List Int × List Ban × Unit × Int × Unit) (fun x => x) (fun x => x) ((),(),m,n,i,((ps,bs),tk,sf,mn),s,losses,t,(),s',ps',bs',(),mc,()) =
  Tree.cond (decide (i < n)) (.need ((0:Int) ≤ i ∧ i < (m.length:Int)) (.need (Int.toNat i < List.length m) (.leaf (Sum.inl ((),(),List.set m (Int.toNat i) (-1:Int),n,IntKind.i64.wrap (i + (1:Int)),((ps,bs),tk,sf,mn),s,losses,t,(),s',ps',bs',(),mc,()))))) (.leaf (Sum.inr (Exit.exit (0:Nat),Lay.st L_all0_0 (U_allw q p) ((),(),m,((ps,bs),tk,sf,mn),s,losses,t,(),s',ps',bs',(),mc,())))):=by kernel_rfl
def inv_all0 (q:A_best) (p:A_allw):Unit × Unit × List Int × Int × Int × Tab × List Int × Int × Int × Unit × List Int × List Int × List Ban × Unit × Int × Unit → Prop:=fun (_,_,m,n,i,_) => n = m.length ∧ 0 ≤ i ∧ i ≤ n ∧ (m.length:Int) ≤ 1000
def O_all0 (q:A_best) (p:A_allw):Unit × Unit × List Int × Int × Int × Tab × List Int × Int × Int × Unit × List Int × List Int × List Ban × Unit × Int × Unit → Tree (Exit × St):=fun (_,_,m,n,i,r) => .leaf (.exit 0,L_all0_0.st (U_allw q p) ((),(),fillS m i,r))
def R_all0 (q:A_best) (p:A_allw):LRun:=runOf 45 L_all0 (fun x => x) (inv_all0 q p) (O_all0 q p)
theorem K_all0 (q:A_best) (p:A_allw):LoopOk P (Y_allw q p) 45 none (U_allw q p) C_all0 (R_all0 q p):=by
  refine loop_of hm (cx:=[]) [] (xl:=X_all0) (α:=Unit × Unit × List Int × Int × Int × Tab × List Int × Int × Int × Unit × List Int × List Int × List Ban × Unit × Int × Unit) (fun x => x) (fun (_,_,m,n,i,_) => (n - i).toNat) (fun _ => rfl) (by kernel_rfl) (by kernel_rfl) ?_ (by kernel_rfl) trivial ?_
  · intro e S L' h
    unfold X_all0 at h
    split at h <;> first | (cases h; done) | (cases h; kernel_rfl) | (rcases bif_some h with h | h <;> cases h <;> kernel_rfl)
  · rintro ⟨⟨⟩,⟨⟩,m,n,i,⟨⟨ps,bs⟩,tk,sf,mn⟩,s,losses,t,⟨⟩,s',ps',bs',⟨⟩,mc,⟨⟩⟩ hinv Q hQ
    refine hold_of_eq (B_all0 q p m n i ps bs tk sf mn s losses t s' ps' bs' mc) ?_
    obtain ⟨rfl,h0,h1,h2⟩:=hinv
    rw [W_id (n:=i + 1) (by omega) (by omega)]
    unfold O_all0 at hQ
    dsimp only at hQ
    refine ⟨fun c1 => ?_,fun c1 => ?_⟩
    · have d1:=of_decide_eq_true c1
      have hm:((m.length:Int) - (i + 1)).toNat < ((m.length:Int) - i).toNat:=by omega
      refine ⟨⟨h0,d1⟩,by omega,⟨⟨by rw [List.length_set],by omega,by omega,by rw [List.length_set]; exact h2⟩,hm⟩,?_⟩
      rw [← fill_step h0 d1] at hQ
      exact hQ
    · have d1:=of_decide_eq_false c1
      rw [fill_end d1] at hQ
      exact hQ
def L_all4:Lay:={ slots:=[(0,.yld 991),(1,.ptr 10031 0),(3,.row 3 tI),(5,.val tI)],boxes:=[(5025,[.adr tTab]),(6025,[.val tIs]),(7025,[.val tI]),(8025,[.val (.int .i8)]),(9025,[.nils]),(16025,[.val tIs]),(16026,[.val tIs,.val (.sl tBan)]),(4031,[.yld 990]),(10031,[.val tI])],recs:=[(990,.ready),(991,.ready)] }
def L_all4_0:Lay:={ slots:=[(0,.yld 991),(1,.ptr 10031 0),(3,.row 3 tI),(5,.val tI)],boxes:=[(5025,[.adr tTab]),(6025,[.val tIs]),(7025,[.val tI]),(8025,[.val (.int .i8)]),(9025,[.nils]),(16025,[.val tIs]),(16026,[.val tIs,.val (.sl tBan)]),(4031,[.yld 990]),(10031,[.val tI])],recs:=[(990,.ready),(991,.ready)] }
def X_all4:Exit → St → Option Lay
  | .exit 4,_ => some L_all4_0
  | _,_ => none
abbrev C_all4:Code:=loopC (inner (loopC (bodyOf Try.f84) 2)) 4
theorem B_all4 (q:A_best) (p:A_allw) (m:List Int) (k:Int) (ps:List Int) (bs:List Ban) (tk:List Int) (sf:List Bool) (mn:Int) (s:List Int) (losses t:Int) (s' ps' : List Int) (bs' : List Ban) (mc:Int):loopBodyA (P:=P) [] (lpOf []) (Y_allw q p) 45 (U_allw q p) (inner C_all4) L_all4 X_all4 (α:=Unit × Unit × List Int × Int × Tab × List Int × Int × Int × Unit × List Int × List Int × List Ban × Unit × Int × Unit) (fun x => x) (fun x => x) ((),(),m,k,((ps,bs),tk,sf,mn),s,losses,t,(),s',ps',bs',(),mc,()) =
  Tree.cond (decide (k ≥ (0:Int))) (.need ((0:Int) ≤ k ∧ k < (m.length:Int)) (.need (Int.toNat k < List.length m) (.cond (List.getD m (Int.toNat k) (0:Int) == (1:Int)) (.need ((0:Int) ≤ k ∧ k < (m.length:Int)) (.need (Int.toNat k < List.length m) (.leaf (Sum.inl ((),(),List.set m (Int.toNat k) (-1:Int),IntKind.i64.wrap (k - (1:Int)),((ps,bs),tk,sf,mn),s,losses,t,(),s',ps',bs',(),mc,()))))) (.leaf (Sum.inr (Exit.exit (4:Nat),Lay.st L_all4_0 (U_allw q p) ((),(),m,k,((ps,bs),tk,sf,mn),s,losses,t,(),s',ps',bs',(),mc,()))))))) (.leaf (Sum.inr (Exit.exit (4:Nat),Lay.st L_all4_0 (U_allw q p) ((),(),m,k,((ps,bs),tk,sf,mn),s,losses,t,(),s',ps',bs',(),mc,())))):=by kernel_rfl
def inv_all4 (q:A_best) (p:A_allw):Unit × Unit × List Int × Int × Tab × List Int × Int × Int × Unit × List Int × List Int × List Ban × Unit × Int × Unit → Prop:=fun (_,_,m,k,_) => -1 ≤ k ∧ k < m.length ∧ (m.length:Int) ≤ 1000
def O_all4 (q:A_best) (p:A_allw):Unit × Unit × List Int × Int × Tab × List Int × Int × Int × Unit × List Int × List Int × List Ban × Unit × Int × Unit → Tree (Exit × St):=fun (_,_,m,k,r) => .leaf (.exit 4,L_all4_0.st (U_allw q p) ((),(),(cryS m (k + 1).toNat).1,(cryS m (k + 1).toNat).2,r))
def R_all4 (q:A_best) (p:A_allw):LRun:=runOf 45 L_all4 (fun x => x) (inv_all4 q p) (O_all4 q p)
theorem K_all4 (q:A_best) (p:A_allw):LoopOk P (Y_allw q p) 45 none (U_allw q p) C_all4 (R_all4 q p):=by
  refine loop_of hm (cx:=[]) [] (xl:=X_all4) (α:=Unit × Unit × List Int × Int × Tab × List Int × Int × Int × Unit × List Int × List Int × List Ban × Unit × Int × Unit) (fun x => x) (fun (_,_,m,k,_) => (k + 1).toNat) (fun _ => rfl) (by kernel_rfl) (by kernel_rfl) ?_ (by kernel_rfl) trivial ?_
  · intro e S L' h
    unfold X_all4 at h
    split at h <;> first | (cases h; done) | (cases h; kernel_rfl) | (rcases bif_some h with h | h <;> cases h <;> kernel_rfl)
  · rintro ⟨⟨⟩,⟨⟩,m,k,⟨⟨ps,bs⟩,tk,sf,mn⟩,s,losses,t,⟨⟩,s',ps',bs',⟨⟩,mc,⟨⟩⟩ hinv Q hQ
    refine hold_of_eq (B_all4 q p m k ps bs tk sf mn s losses t s' ps' bs' mc) ?_
    obtain ⟨h0,h1,h2⟩:=hinv
    rw [W_id (n:=k - 1) (by omega) (by omega)]
    unfold O_all4 at hQ
    dsimp only at hQ
    refine ⟨fun c1 => ?_,fun c1 => ?_⟩
    · have d1:0 ≤ k:=of_decide_eq_true c1
      have hm:(k - 1 + 1).toNat < (k + 1).toNat:=by omega
      have e:=cryS_step (m:=m) d1
      refine ⟨⟨d1,h1⟩,by omega,fun c2 => ⟨⟨d1,h1⟩,by omega,⟨⟨by omega,by rw [List.length_set]; omega,by rw [List.length_set]; exact h2⟩,hm⟩,?_⟩,fun c2 => ?_⟩
      · rw [e,if_pos (by simpa using c2)] at hQ
        unfold O_all4
        dsimp only
        rw [show k - 1 + 1 = k by omega]
        exact hQ
      · rw [e,if_neg (by simpa using c2)] at hQ
        exact hQ
    · have d1:k < 0:=by have:¬ k ≥ 0:=of_decide_eq_false c1; omega
      have e:k = -1:=by omega
      subst e
      exact hQ
def L_all2:Lay:={ slots:=[(0,.yld 991),(1,.ptr 10031 0),(3,.row 3 tI)],boxes:=[(5025,[.adr tTab]),(6025,[.val tIs]),(7025,[.val tI]),(8025,[.val (.int .i8)]),(9025,[.nils]),(16025,[.val tIs]),(16026,[.val tIs,.val (.sl tBan)]),(4031,[.yld 990]),(10031,[.val tI])],recs:=[(990,.ready),(991,.ready)] }
def L_all2_0:Lay:={ slots:=[],boxes:=[(9025,[.nils])],recs:=[(990,.ready),(991,.ready)] }
def L_all2_1:Lay:={ slots:=[],boxes:=[(9025,[.row 3 tI])],recs:=[(990,.done .ret),(991,.done .ret)] }
def X_all2:Exit → St → Option Lay
  | .ret,S => bif recReady 991 S then some L_all2_0 else some L_all2_1
  | _,_ => none
abbrev C_all2:Code:=loopC (bodyOf Try.f84) 2
theorem B_all2 (q:A_best) (p:A_allw) (m:List Int) (ps:List Int) (bs:List Ban) (tk:List Int) (sf:List Bool) (mn:Int) (s:List Int) (losses t:Int) (s' ps' : List Int) (bs' : List Ban) (mc:Int):loopBodyA (P:=P) [c_reaches.gc,c_clone.gc,c_ways.gc,c_bans.gc] (lpOf [(4,R_all4 q p)]) (Y_allw q p) 45 (U_allw q p) (inner C_all2) L_all2 X_all2 (α:=Unit × Unit × List Int × Tab × List Int × Int × Int × Unit × List Int × List Int × List Ban × Unit × Int × Unit) (fun x => x) (fun x => x) ((),(),m,((ps,bs),tk,sf,mn),s,losses,t,(),s',ps',bs',(),mc,()) =
  Tree.need (List.length s' ≤ (1000:Nat) ∧ List.length s' ≤ List.length m ∧ List.length s' ≤ List.length ps') (.cond (waysS s' m ps').snd (.need ((↑(List.length bs'):Int) < (2:Int) ^ (62:Nat) ∧ ∀ (b:Ban),b ∈ bs' → okB (List.length (waysS s' m ps').fst) b) (.cond (decide (ixS (banS (waysS s' m ps').fst) bs' < (0:Int))) (.need (OkR ps s m ∧ (0:Int) ≤ losses ∧ losses ≤ (2:Int)) (.cond (reachS ps tk s m losses t) (.need (m ≠ [] ∧ List.length m ≤ (1000:Nat)) (.leaf (Sum.inr (Exit.ret,Lay.st L_all2_1 (U_allw q p) (m,()))))) (.need (inv_all4 q p ((),(),m,IntKind.i64.wrap (mc - (1:Int)),((ps,bs),tk,sf,mn),s,losses,t,(),s',ps',bs',(),mc,())) (.cond (decide ((cryS m (Int.toNat (IntKind.i64.wrap (mc - (1:Int)) + (1:Int)))).snd < (0:Int))) (.leaf (Sum.inr (Exit.ret,Lay.st L_all2_0 (U_allw q p) ((),())))) (.need ((0:Int) ≤ (cryS m (Int.toNat (IntKind.i64.wrap (mc - (1:Int)) + (1:Int)))).snd ∧ (cryS m (Int.toNat (IntKind.i64.wrap (mc - (1:Int)) + (1:Int)))).snd < (↑(List.length (cryS m (Int.toNat (IntKind.i64.wrap (mc - (1:Int)) + (1:Int)))).fst):Int)) (.need (Int.toNat (cryS m (Int.toNat (IntKind.i64.wrap (mc - (1:Int)) + (1:Int)))).snd < List.length (cryS m (Int.toNat (IntKind.i64.wrap (mc - (1:Int)) + (1:Int)))).fst) (.need ((0:Int) ≤ (cryS m (Int.toNat (IntKind.i64.wrap (mc - (1:Int)) + (1:Int)))).snd ∧ (cryS m (Int.toNat (IntKind.i64.wrap (mc - (1:Int)) + (1:Int)))).snd < (↑(List.length (cryS m (Int.toNat (IntKind.i64.wrap (mc - (1:Int)) + (1:Int)))).fst):Int)) (.need (Int.toNat (cryS m (Int.toNat (IntKind.i64.wrap (mc - (1:Int)) + (1:Int)))).snd < List.length (cryS m (Int.toNat (IntKind.i64.wrap (mc - (1:Int)) + (1:Int)))).fst) (.leaf (Sum.inl ((),(),List.set (cryS m (Int.toNat (IntKind.i64.wrap (mc - (1:Int)) + (1:Int)))).fst (Int.toNat (cryS m (Int.toNat (IntKind.i64.wrap (mc - (1:Int)) + (1:Int)))).snd) (IntKind.i64.wrap (List.getD (cryS m (Int.toNat (IntKind.i64.wrap (mc - (1:Int)) + (1:Int)))).fst (Int.toNat (cryS m (Int.toNat (IntKind.i64.wrap (mc - (1:Int)) + (1:Int)))).snd) (0:Int) + (1:Int))),((ps,bs),tk,sf,mn),s,losses,t,(),s',ps',bs',(),mc,()))))))))))) (.need (inv_all4 q p ((),(),m,IntKind.i64.wrap (mc - (1:Int)),((ps,bs),tk,sf,mn),s,losses,t,(),s',ps',bs',(),mc,())) (.cond (decide ((cryS m (Int.toNat (IntKind.i64.wrap (mc - (1:Int)) + (1:Int)))).snd < (0:Int))) (.leaf (Sum.inr (Exit.ret,Lay.st L_all2_0 (U_allw q p) ((),())))) (.need ((0:Int) ≤ (cryS m (Int.toNat (IntKind.i64.wrap (mc - (1:Int)) + (1:Int)))).snd ∧ (cryS m (Int.toNat (IntKind.i64.wrap (mc - (1:Int)) + (1:Int)))).snd < (↑(List.length (cryS m (Int.toNat (IntKind.i64.wrap (mc - (1:Int)) + (1:Int)))).fst):Int)) (.need (Int.toNat (cryS m (Int.toNat (IntKind.i64.wrap (mc - (1:Int)) + (1:Int)))).snd < List.length (cryS m (Int.toNat (IntKind.i64.wrap (mc - (1:Int)) + (1:Int)))).fst) (.need ((0:Int) ≤ (cryS m (Int.toNat (IntKind.i64.wrap (mc - (1:Int)) + (1:Int)))).snd ∧ (cryS m (Int.toNat (IntKind.i64.wrap (mc - (1:Int)) + (1:Int)))).snd < (↑(List.length (cryS m (Int.toNat (IntKind.i64.wrap (mc - (1:Int)) + (1:Int)))).fst):Int)) (.need (Int.toNat (cryS m (Int.toNat (IntKind.i64.wrap (mc - (1:Int)) + (1:Int)))).snd < List.length (cryS m (Int.toNat (IntKind.i64.wrap (mc - (1:Int)) + (1:Int)))).fst) (.leaf (Sum.inl ((),(),List.set (cryS m (Int.toNat (IntKind.i64.wrap (mc - (1:Int)) + (1:Int)))).fst (Int.toNat (cryS m (Int.toNat (IntKind.i64.wrap (mc - (1:Int)) + (1:Int)))).snd) (IntKind.i64.wrap (List.getD (cryS m (Int.toNat (IntKind.i64.wrap (mc - (1:Int)) + (1:Int)))).fst (Int.toNat (cryS m (Int.toNat (IntKind.i64.wrap (mc - (1:Int)) + (1:Int)))).snd) (0:Int) + (1:Int))),((ps,bs),tk,sf,mn),s,losses,t,(),s',ps',bs',(),mc,()))))))))))) (.need (inv_all4 q p ((),(),m,IntKind.i64.wrap (mc - (1:Int)),((ps,bs),tk,sf,mn),s,losses,t,(),s',ps',bs',(),mc,())) (.cond (decide ((cryS m (Int.toNat (IntKind.i64.wrap (mc - (1:Int)) + (1:Int)))).snd < (0:Int))) (.leaf (Sum.inr (Exit.ret,Lay.st L_all2_0 (U_allw q p) ((),())))) (.need ((0:Int) ≤ (cryS m (Int.toNat (IntKind.i64.wrap (mc - (1:Int)) + (1:Int)))).snd ∧ (cryS m (Int.toNat (IntKind.i64.wrap (mc - (1:Int)) + (1:Int)))).snd < (↑(List.length (cryS m (Int.toNat (IntKind.i64.wrap (mc - (1:Int)) + (1:Int)))).fst):Int)) (.need (Int.toNat (cryS m (Int.toNat (IntKind.i64.wrap (mc - (1:Int)) + (1:Int)))).snd < List.length (cryS m (Int.toNat (IntKind.i64.wrap (mc - (1:Int)) + (1:Int)))).fst) (.need ((0:Int) ≤ (cryS m (Int.toNat (IntKind.i64.wrap (mc - (1:Int)) + (1:Int)))).snd ∧ (cryS m (Int.toNat (IntKind.i64.wrap (mc - (1:Int)) + (1:Int)))).snd < (↑(List.length (cryS m (Int.toNat (IntKind.i64.wrap (mc - (1:Int)) + (1:Int)))).fst):Int)) (.need (Int.toNat (cryS m (Int.toNat (IntKind.i64.wrap (mc - (1:Int)) + (1:Int)))).snd < List.length (cryS m (Int.toNat (IntKind.i64.wrap (mc - (1:Int)) + (1:Int)))).fst) (.leaf (Sum.inl ((),(),List.set (cryS m (Int.toNat (IntKind.i64.wrap (mc - (1:Int)) + (1:Int)))).fst (Int.toNat (cryS m (Int.toNat (IntKind.i64.wrap (mc - (1:Int)) + (1:Int)))).snd) (IntKind.i64.wrap (List.getD (cryS m (Int.toNat (IntKind.i64.wrap (mc - (1:Int)) + (1:Int)))).fst (Int.toNat (cryS m (Int.toNat (IntKind.i64.wrap (mc - (1:Int)) + (1:Int)))).snd) (0:Int) + (1:Int))),((ps,bs),tk,sf,mn),s,losses,t,(),s',ps',bs',(),mc,())))))))))):=by kernel_rfl
def inv_all2 (q:A_best) (p:A_allw):Unit × Unit × List Int × Tab × List Int × Int × Int × Unit × List Int × List Int × List Ban × Unit × Int × Unit → Prop:=fun (_,_,m,((ps,bs),tk,sf,mn),s,losses,t,_,s',ps',bs',_,mc,_) => isM m ∧ m.length = ps.length ∧ StOk ps bs s ∧ (0 ≤ losses ∧ losses ≤ 2) ∧ s' = s ∧ ps' = ps ∧ bs' = bs ∧ mc = ps.length
def O_all2 (q:A_best) (p:A_allw):Unit × Unit × List Int × Tab × List Int × Int × Int × Unit × List Int × List Int × List Ban × Unit × Int × Unit → Tree (Exit × St):=fun (_,_,m,((ps,bs),tk,sf,mn),s,losses,t,r) => .cond ((restM m).any (takeM ps bs tk s losses t)) (.leaf (.ret,L_all2_1.st (U_allw q p) (firstM (takeM ps bs tk s losses t) (restM m),()))) (.leaf (.ret,L_all2_0.st (U_allw q p) ((),())))
def R_all2 (q:A_best) (p:A_allw):LRun:=runOf 45 L_all2 (fun x => x) (inv_all2 q p) (O_all2 q p)
theorem K_all2 (q:A_best) (p:A_allw):LoopOk P (Y_allw q p) 45 none (U_allw q p) C_all2 (R_all2 q p):=by
  refine loop_of hm (cx:=[c_reaches.gc,c_clone.gc,c_ways.gc,c_bans.gc]) [(4,R_all4 q p)] (xl:=X_all2) (α:=Unit × Unit × List Int × Tab × List Int × Int × Int × Unit × List Int × List Int × List Ban × Unit × Int × Unit) (fun x => x) (fun (_,_,m,_) => (restM m).length) (fun _ => rfl) (by kernel_rfl) (by kernel_rfl) ?_ (by kernel_rfl) ⟨K_all4 q p,trivial⟩ ?_
  · intro e S L' h
    unfold X_all2 at h
    split at h <;> first | (cases h; done) | (cases h; kernel_rfl) | (rcases bif_some h with h | h <;> cases h <;> kernel_rfl)
  · rintro ⟨⟨⟩,⟨⟩,m,⟨⟨ps,bs⟩,tk,sf,mn⟩,s,losses,t,⟨⟩,s',ps',bs',⟨⟩,mc,⟨⟩⟩ hinv Q hQ
    refine hold_of_eq (B_all2 q p m ps bs tk sf mn s losses t s' ps' bs' mc) ?_
    obtain ⟨hM,hl,hk,⟨hlo,hhi⟩,rfl,rfl,rfl,rfl⟩:=hinv
    have l2:=hk.l2
    have l4:=hk.l4
    have sl:=hk.sl
    have bl:=hk.bl
    unfold O_all2 at hQ
    dsimp only at hQ
    rw [W_id (n:=(ps'.length:Int) - 1) (by omega) (by omega),show ((ps'.length:Int) - 1 + 1).toNat = m.length by omega]
    have er:=restM_step hM
    have hn:=cryS_nxt hM
    refine ⟨⟨by omega,by omega,by omega⟩,fun c1 => ⟨⟨by omega,?_⟩,fun c2 => ⟨⟨hk.r hl c1,hlo,hhi⟩,fun c3 => ⟨⟨fun e => by rw [e] at hl; simp at hl; omega,by omega⟩,?_⟩,fun c3 => ?_⟩,fun c2 => ?_⟩,fun c1 => ?_⟩
    · intro b hb
      rw [waysS_len c1 (by omega),sl]
      exact hk.bk b hb
    · have ht:takeM ps' bs' tk s' losses t m = true:=by
        unfold takeM okM
        rw [show (waysS s' m ps').2 = true from c1,show decide (ixS (banS (waysS s' m ps').1) bs' < 0) = true from c2,show reachS ps' tk s' m losses t = true from c3]
        rfl
      have h1:=hQ.1 (by rw [er,List.any_cons,ht,Bool.true_or])
      rw [er,firstM_yes ht] at h1
      exact h1
    all_goals
      have ht:takeM ps' bs' tk s' losses t m = false:=by
        unfold takeM okM
        first
          | rw [show reachS ps' tk s' m losses t = false from c3,Bool.and_false]
          | rw [show decide (ixS (banS (waysS s' m ps').1) bs' < 0) = false from c2,Bool.and_false,Bool.false_and]
          | rw [show (waysS s' m ps').2 = false from c1,Bool.false_and,Bool.false_and]
      have hc:=cryS_rng m.length m
      have hcl:=cryS_len m.length m
      have hci:=cryS_is m.length hM
      generalize cryS m m.length = z at *
      have hz:=getD_is hci z.2.toNat
      refine ⟨⟨by omega,by omega,by omega⟩,fun c4 => ?_,fun c4 => ?_⟩
      · have d4:z.2 < 0:=of_decide_eq_true c4
        cases hx:nxtM m with
        | none =>
          rw [hx] at er
          have h1:=hQ.2 (by rw [er,List.any_cons,ht]; rfl)
          exact h1
        | some m' =>
          rw [hx] at hn
          exact absurd hn.1 (by omega)
      · have d4:¬ z.2 < 0:=of_decide_eq_false c4
        have hb:0 ≤ z.2 ∧ z.2 < (z.1.length:Int):=by omega
        have hb2:z.2.toNat < z.1.length:=by omega
        refine ⟨hb,hb2,hb,hb2,?_⟩
        cases hx:nxtM m with
        | none =>
          rw [hx] at hn
          exact absurd hn.1 (by omega)
        | some m' =>
          rw [hx] at hn er
          dsimp only at hn er
          rw [W_id (n:=z.1.getD z.2.toNat 0 + 1) (by omega) (by omega),hn.2]
          have hlen:=nxtM_len hx
          have hmu:(restM m').length < (restM m).length:=by rw [er,List.length_cons]; omega
          refine ⟨⟨⟨nxtM_is hM hx,by omega,hk,⟨hlo,hhi⟩,rfl,rfl,rfl,rfl⟩,hmu⟩,?_⟩
          rw [er,List.any_cons,ht,Bool.false_or,firstM_no ht] at hQ
          exact hQ
theorem G_allw (q:A_best) (ps:List Int) (bs:List Ban) (tk:List Int) (sf:List Bool) (mn:Int) (s:List Int) (losses t:Int) (s' ps' : List Int) (bs' : List Ban) (mc:Int):rangeTree (P:=P) [c_ways.gc,c_bans.gc] (lpOf [(0,R_all0 q ((),(),(),(),((ps,bs),tk,sf,mn),s,losses,t,(),s',ps',bs',(),mc,())),(2,R_all2 q ((),(),(),(),((ps,bs),tk,sf,mn),s,losses,t,(),s',ps',bs',(),mc,()))]) (Y_best q) 31 (U_best q) 991 (rgFn C_allw) (rgPs C_allw).toList (rgAssign C_allw) (rgBody C_allw) X_allw (L_allw.st (U_best q) ((),(),(),(),((ps,bs),tk,sf,mn),s,losses,t,(),s',ps',bs',(),mc,())) =
  Tree.need ((0:Int) ≤ mc ∧ mc = mc ∧ mc ≤ (70368744177664:Int) ∧ (↑(8:Nat):Int) * mc ≤ (140737488355328:Int)) (.need (inv_all0 q ((),(),(),(),((ps,bs),tk,sf,mn),s,losses,t,(),s',ps',bs',(),mc,()) ((),(),List.replicate (Int.toNat mc) (0:Int),(↑(List.length (List.replicate (Int.toNat mc) (0:Int))):Int),(0:Int),((ps,bs),tk,sf,mn),s,losses,t,(),s',ps',bs',(),mc,())) (.need (inv_all2 q ((),(),(),(),((ps,bs),tk,sf,mn),s,losses,t,(),s',ps',bs',(),mc,()) ((),(),fillS (List.replicate (Int.toNat mc) (0:Int)) (0:Int),((ps,bs),tk,sf,mn),s,losses,t,(),s',ps',bs',(),mc,())) (.cond (List.any (restM (fillS (List.replicate (Int.toNat mc) (0:Int)) (0:Int))) (takeM ps bs tk s losses t)) (.leaf (Exit.ret,Lay.st L_allw_1 (U_best q) (firstM (takeM ps bs tk s losses t) (restM (fillS (List.replicate (Int.toNat mc) (0:Int)) (0:Int))),()))) (.leaf (Exit.normal,Lay.st L_allw_0 (U_best q) ((),())))))):=by kernel_rfl
def inv_allw (q:A_best):Unit × Unit × Unit × Unit × Tab × List Int × Int × Int × Unit × List Int × List Int × List Ban × Unit × Int × Unit → Prop:=fun (_,_,_,_,((ps,bs),tk,sf,mn),s,losses,t,_,s',ps',bs',_,mc,_) => StOk ps bs s ∧ (0 ≤ losses ∧ losses ≤ 2) ∧ s' = s ∧ ps' = ps ∧ bs' = bs ∧ mc = ps.length
def O_allw (q:A_best):Unit × Unit × Unit × Unit × Tab × List Int × Int × Int × Unit × List Int × List Int × List Ban × Unit × Int × Unit → Tree (Exit × St):=fun (_,_,_,_,((ps,bs),tk,sf,mn),s,losses,t,_,s',ps',bs',_,mc,_) => .cond ((allM s.length).any (takeM ps bs tk s losses t)) (.leaf (.ret,L_allw_1.st (U_best q) (bestS ps bs tk s losses t,()))) (.leaf (.normal,L_allw_0.st (U_best q) ((),())))
def R_allw (q:A_best):LRun:=runOf 31 L_allw (fun x => x) (inv_allw q) (O_allw q)
theorem H_allw (q:A_best) (ps:List Int) (bs:List Ban) (tk:List Int) (sf:List Bool) (mn:Int) (s:List Int) (losses t:Int) (s' ps' : List Int) (bs' : List Ban) (mc:Int) (hinv:inv_allw q ((),(),(),(),((ps,bs),tk,sf,mn),s,losses,t,(),s',ps',bs',(),mc,())) (Q:Exit × St → Prop) (hQ:(O_allw q ((),(),(),(),((ps,bs),tk,sf,mn),s,losses,t,(),s',ps',bs',(),mc,())).holds Q):Hold Q (rangeTree (P:=P) [c_ways.gc,c_bans.gc] (lpOf [(0,R_all0 q ((),(),(),(),((ps,bs),tk,sf,mn),s,losses,t,(),s',ps',bs',(),mc,())),(2,R_all2 q ((),(),(),(),((ps,bs),tk,sf,mn),s,losses,t,(),s',ps',bs',(),mc,()))]) (Y_best q) 31 (U_best q) 991 (rgFn C_allw) (rgPs C_allw).toList (rgAssign C_allw) (rgBody C_allw) X_allw (L_allw.st (U_best q) ((),(),(),(),((ps,bs),tk,sf,mn),s,losses,t,(),s',ps',bs',(),mc,()))):=by
    have e:=G_allw q ps bs tk sf mn s losses t s' ps' bs' mc
    generalize rangeTree (P:=P) [c_ways.gc,c_bans.gc] (lpOf [(0,R_all0 q ((),(),(),(),((ps,bs),tk,sf,mn),s,losses,t,(),s',ps',bs',(),mc,())),(2,R_all2 q ((),(),(),(),((ps,bs),tk,sf,mn),s,losses,t,(),s',ps',bs',(),mc,()))]) (Y_best q) 31 (U_best q) 991 (rgFn C_allw) (rgPs C_allw).toList (rgAssign C_allw) (rgBody C_allw) X_allw (L_allw.st (U_best q) ((),(),(),(),((ps,bs),tk,sf,mn),s,losses,t,(),s',ps',bs',(),mc,())) = t at e ⊢
    subst e
    constructor
    obtain ⟨hk,⟨hlo,hhi⟩,rfl,rfl,rfl,rfl⟩:=hinv
    have l2:=hk.l2
    have l4:=hk.l4
    have sl:=hk.sl
    unfold O_allw at hQ
    dsimp only at hQ
    rw [Int.toNat_natCast,fill_rep,restM_rep]
    have e:bestS ps' bs' tk s' losses t = firstM (takeM ps' bs' tk s' losses t) (allM ps'.length):=by unfold bestS; rw [sl]
    rw [e,sl] at hQ
    refine ⟨⟨by omega,rfl,by omega,by omega⟩,⟨rfl,by omega,by omega,by rw [List.length_replicate]; omega⟩,⟨isM_rep _,List.length_replicate,hk,⟨hlo,hhi⟩,rfl,rfl,rfl,rfl⟩,fun c1 => hQ.1 c1,fun c1 => hQ.2 c1⟩
theorem J_allw (q:A_best) (a:A_allw):AllK P (Y_allw q a) 45 none (U_allw q a) (bodyOf Try.f84) [(0,R_all0 q a),(2,R_all2 q a)]:=⟨K_all0 q a,K_all2 q a,trivial⟩
theorem K_allw (q:A_best):LoopOk P (Y_best q) 31 none (U_best q) C_allw (R_allw q):=by
  refine range_of hm (cx:=[c_ways.gc,c_bans.gc]) (xl:=X_allw) (α:=Unit × Unit × Unit × Unit × Tab × List Int × Int × Int × Unit × List Int × List Int × List Ban × Unit × Int × Unit) (fun x => x) 991 (gf:=84) (fnI:=Try.f84) (fun a => [(0,R_all0 q a),(2,R_all2 q a)]) (fun _ => rfl) (by kernel_rfl) (by kernel_rfl) ?_ (by kernel_rfl) (fun a => ⟨encK [(10031,0)],by kernel_rfl⟩) (by kernel_rfl) ?_ ?_
  · intro e S L' h
    unfold X_allw at h
    split at h <;> first | (cases h; done) | (cases h; kernel_rfl) | (rcases bif_some h with h | h <;> cases h <;> kernel_rfl)
  · intro a; exact J_allw q a
  · have tup:∀ Pr:Unit × Unit × Unit × Unit × Tab × List Int × Int × Int × Unit × List Int × List Int × List Ban × Unit × Int × Unit → Prop,(∀ (ps:List Int) (bs:List Ban) (tk:List Int) (sf:List Bool) (mn:Int) (s:List Int) (losses t:Int) (s' ps' : List Int) (bs' : List Ban) (mc:Int),Pr ((),(),(),(),((ps,bs),tk,sf,mn),s,losses,t,(),s',ps',bs',(),mc,())) → ∀ a,Pr a:=fun Pr h a => h (a.2.2.2.2.1.1.1) (a.2.2.2.2.1.1.2) (a.2.2.2.2.1.2.1) (a.2.2.2.2.1.2.2.1) (a.2.2.2.2.1.2.2.2) (a.2.2.2.2.2.1) (a.2.2.2.2.2.2.1) (a.2.2.2.2.2.2.2.1) (a.2.2.2.2.2.2.2.2.2.1) (a.2.2.2.2.2.2.2.2.2.2.1) (a.2.2.2.2.2.2.2.2.2.2.2.1) (a.2.2.2.2.2.2.2.2.2.2.2.2.2.1)
    refine tup _ ?_
    intro ps bs tk sf mn s losses t s' ps' bs' mc hinv Q hQ
    exact H_allw q ps bs tk sf mn s losses t s' ps' bs' mc hinv Q hQ
theorem G_best (ps:List Int) (bs:List Ban) (tk:List Int) (sf:List Bool) (mn:Int) (s:List Int) (losses t:Int) (s' ps' : List Int) (bs' : List Ban):rangeTree (P:=P) [c_reaches.gc,c_clone.gc,c_all.gc] (lpOf [(0,R_allw ((),(),(),(),(),(),((ps,bs),tk,sf,mn),s,losses,t,(),s',ps',bs',()))]) [] 25 noU 990 (rgFn C_best) (rgPs C_best).toList (rgAssign C_best) (rgBody C_best) X_best (L_best.st noU ((),(),(),(),(),(),((ps,bs),tk,sf,mn),s,losses,t,(),s',ps',bs',())) =
  Tree.need (inv_allw ((),(),(),(),(),(),((ps,bs),tk,sf,mn),s,losses,t,(),s',ps',bs',()) ((),(),(),(),((ps,bs),tk,sf,mn),s,losses,t,(),s',ps',bs',(),(↑(List.length s'):Int),())) (.cond (List.any (allM (List.length s)) (takeM ps bs tk s losses t)) (.leaf (Exit.ret,Lay.st L_best_1 noU ((),bestS ps bs tk s losses t,()))) (.leaf (Exit.normal,Lay.st L_best_0 noU ((),(),())))):=by kernel_rfl
def inv_best:Unit × Unit × Unit × Unit × Unit × Unit × Tab × List Int × Int × Int × Unit × List Int × List Int × List Ban × Unit → Prop:=fun (_,_,_,_,_,_,((ps,bs),tk,sf,mn),s,losses,t,_,s',ps',bs',_) => StOk ps bs s ∧ (0 ≤ losses ∧ losses ≤ 2) ∧ s' = s ∧ ps' = ps ∧ bs' = bs
def O_best:Unit × Unit × Unit × Unit × Unit × Unit × Tab × List Int × Int × Int × Unit × List Int × List Int × List Ban × Unit → Tree (Exit × St):=fun (_,_,_,_,_,_,((ps,bs),tk,sf,mn),s,losses,t,_,s',ps',bs',_) => .cond ((allM s.length).any (takeM ps bs tk s losses t)) (.leaf (.ret,L_best_1.st noU ((),bestS ps bs tk s losses t,()))) (.leaf (.normal,L_best_0.st noU ((),(),())))
def R_best:LRun:=runOf 25 L_best (fun x => x) (inv_best) (O_best)
theorem H_best (ps:List Int) (bs:List Ban) (tk:List Int) (sf:List Bool) (mn:Int) (s:List Int) (losses t:Int) (s' ps' : List Int) (bs' : List Ban) (hinv:inv_best ((),(),(),(),(),(),((ps,bs),tk,sf,mn),s,losses,t,(),s',ps',bs',())) (Q:Exit × St → Prop) (hQ:(O_best ((),(),(),(),(),(),((ps,bs),tk,sf,mn),s,losses,t,(),s',ps',bs',())).holds Q):Hold Q (rangeTree (P:=P) [c_reaches.gc,c_clone.gc,c_all.gc] (lpOf [(0,R_allw ((),(),(),(),(),(),((ps,bs),tk,sf,mn),s,losses,t,(),s',ps',bs',()))]) [] 25 noU 990 (rgFn C_best) (rgPs C_best).toList (rgAssign C_best) (rgBody C_best) X_best (L_best.st noU ((),(),(),(),(),(),((ps,bs),tk,sf,mn),s,losses,t,(),s',ps',bs',()))):=by
    have e:=G_best ps bs tk sf mn s losses t s' ps' bs'
    generalize rangeTree (P:=P) [c_reaches.gc,c_clone.gc,c_all.gc] (lpOf [(0,R_allw ((),(),(),(),(),(),((ps,bs),tk,sf,mn),s,losses,t,(),s',ps',bs',()))]) [] 25 noU 990 (rgFn C_best) (rgPs C_best).toList (rgAssign C_best) (rgBody C_best) X_best (L_best.st noU ((),(),(),(),(),(),((ps,bs),tk,sf,mn),s,losses,t,(),s',ps',bs',())) = t at e ⊢
    subst e
    constructor
    obtain ⟨hk,⟨hlo,hhi⟩,rfl,rfl,rfl⟩:=hinv
    have sl:=hk.sl
    unfold O_best at hQ
    dsimp only at hQ
    exact ⟨⟨hk,⟨hlo,hhi⟩,rfl,rfl,rfl,by omega⟩,fun c1 => hQ.1 c1,fun c1 => hQ.2 c1⟩
theorem J_best (a:A_best):AllK P (Y_best a) 31 none (U_best a) (bodyOf Try.f73) [(0,R_allw a)]:=⟨K_allw a,trivial⟩
theorem K_best:LoopOk P [] 25 none noU C_best (R_best):=by
  refine range_of hm (cx:=[c_reaches.gc,c_clone.gc,c_all.gc]) (xl:=X_best) (α:=Unit × Unit × Unit × Unit × Unit × Unit × Tab × List Int × Int × Int × Unit × List Int × List Int × List Ban × Unit) (fun x => x) 990 (gf:=73) (fnI:=Try.f73) (fun a => [(0,R_allw a)]) (fun _ => rfl) (by kernel_rfl) (by kernel_rfl) ?_ (by kernel_rfl) (fun a => ⟨encK [(16025,0),(16026,0)],by kernel_rfl⟩) (by kernel_rfl) ?_ ?_
  · intro e S L' h
    unfold X_best at h
    split at h <;> first | (cases h; done) | (cases h; kernel_rfl) | (rcases bif_some h with h | h <;> cases h <;> kernel_rfl)
  · intro a; exact J_best a
  · have tup:∀ Pr:Unit × Unit × Unit × Unit × Unit × Unit × Tab × List Int × Int × Int × Unit × List Int × List Int × List Ban × Unit → Prop,(∀ (ps:List Int) (bs:List Ban) (tk:List Int) (sf:List Bool) (mn:Int) (s:List Int) (losses t:Int) (s' ps' : List Int) (bs' : List Ban),Pr ((),(),(),(),(),(),((ps,bs),tk,sf,mn),s,losses,t,(),s',ps',bs',())) → ∀ a,Pr a:=fun Pr h a => h (a.2.2.2.2.2.2.1.1.1) (a.2.2.2.2.2.2.1.1.2) (a.2.2.2.2.2.2.1.2.1) (a.2.2.2.2.2.2.1.2.2.1) (a.2.2.2.2.2.2.1.2.2.2) (a.2.2.2.2.2.2.2.1) (a.2.2.2.2.2.2.2.2.1) (a.2.2.2.2.2.2.2.2.2.1) (a.2.2.2.2.2.2.2.2.2.2.2.1) (a.2.2.2.2.2.2.2.2.2.2.2.2.1) (a.2.2.2.2.2.2.2.2.2.2.2.2.2.1)
    refine tup _ ?_
    intro ps bs tk sf mn s losses t s' ps' bs' hinv Q hQ
    exact H_best ps bs tk sf mn s losses t s' ps' bs' hinv Q hQ
theorem allM_len:∀ {n:Nat} {m:List Int},m ∈ allM n → m.length = n
  | 0,m,h => by rw [allM,List.mem_singleton] at h; rw [h]; rfl
  | n + 1,m,h => by
    rw [allM,List.mem_append,List.mem_append,List.mem_map,List.mem_map,List.mem_map] at h
    rcases h with ⟨a,ha,rfl⟩ | ⟨a,ha,rfl⟩ | ⟨a,ha,rfl⟩ <;> rw [List.length_cons,allM_len ha]
theorem firstM_mem {p:List Int → Bool} {l:List (List Int)} (h:l.any p = true):firstM p l ∈ l ∧ p (firstM p l) = true:=by
  unfold firstM
  cases e:l.find? p with
  | none =>
    rw [List.any_eq_true] at h
    obtain ⟨x,hx,hp⟩:=h
    exact absurd hp (List.find?_eq_none.1 e x hx)
  | some m => exact ⟨List.mem_of_find?_eq_some e,List.find?_some e⟩
theorem firstM_ne {p:List Int → Bool} {n:Nat} (hn:1 ≤ n) (h:(allM n).any p = true):firstM p (allM n) ≠ []:=by
  intro e
  have:=allM_len (firstM_mem h).1
  rw [e] at this
  simp at this
  omega
theorem firstM_nil {p:List Int → Bool} {l:List (List Int)} (h:l.any p = false):firstM p l = []:=by
  unfold firstM
  cases e:l.find? p with
  | none => rfl
  | some m =>
    have h1:=List.mem_of_find?_eq_some e
    have h2:=List.find?_some e
    rw [List.any_eq_true.2 ⟨m,h1,h2⟩] at h
    cases h
theorem leS_osl {l:List Int} (h:l ≠ []):LeS (.sl tI l) (.osl tI l):=by unfold LeS; exact ⟨h,rfl⟩
theorem leS_nosl:LeS .nils (.osl tI []):=by simp [LeS]
theorem T_bst (s0_0:List Int) (s0_1:List (Int × (Int × (Int × V)))) (s0_2:List Int) (s0_3:List Bool) (s0_4:Int) (s1:List Int) (s2 s3:Int):frTree (P:=P) [c_allowed.gc] (lpOf [(0,R_best)]) Try.f26 (encL 0 [.adr (.pair (.pair tIs (.sl (.pair tI (.pair tI (.pair tI tV))))) (.pair (.arr (.int .i8) 12288) (.pair (.arr .bool 4096) tI))),.val tIs,.val tI,.val (.int .i8)] (((s0_0,s0_1),(s0_2,(s0_3,s0_4))),s1,s2,s3,())) =
  Tree.need (inv_best ((),(),(),(),(),(),((s0_0,s0_1),s0_2,s0_3,s0_4),s1,s2,s3,(),s1,s0_0,s0_1,())) (.cond (List.any (allM (List.length s1)) (takeM s0_0 s0_1 s0_2 s1 s2 s3)) (.leaf (SV.sl (Ty.int IntKind.i64) (bestS s0_0 s0_1 s0_2 s1 s2 s3))) (.leaf SV.nils)):=by kernel_rfl
def c_bst:XF P:=XF.of (α:=((List Int × List (Int × (Int × (Int × V)))) × (List Int × (List Bool × Int))) × List Int × Int × Int × Unit) 26 [.adr (.pair (.pair tIs (.sl (.pair tI (.pair tI (.pair tI tV))))) (.pair (.arr (.int .i8) 12288) (.pair (.arr .bool 4096) tI))),.val tIs,.val tI,.val (.int .i8)] (fun x => x) (fun x => x) (fun _ => rfl)
  (fun x => some (StOk x.1.1.1 x.1.1.2 x.2.1 ∧ 0 ≤ x.2.2.1 ∧ x.2.2.1 ≤ 2))
  (fun x => .osl tI (bestS x.1.1.1 x.1.1.2 x.1.2.1 x.2.1 x.2.2.1 x.2.2.2.1)) (by kernel_rfl) (by
    rintro ⟨⟨⟨s0_0,s0_1⟩,⟨s0_2,⟨s0_3,s0_4⟩⟩⟩,s1,s2,s3,⟨⟩⟩ hp
    refine fr_le hm (by kernel_rfl) (by kernel_rfl) (T_bst s0_0 s0_1 s0_2 s0_3 s0_4 s1 s2 s3) ⟨K_best,trivial⟩ (by kernel_rfl) ?_
    try dsimp only at hp
    try dsimp only
    obtain ⟨hk,h0,h1⟩ : StOk s0_0 s0_1 s1 ∧ 0 ≤ s2 ∧ s2 ≤ 2:=hp
    refine ⟨⟨hk,⟨h0,h1⟩,rfl,rfl,rfl⟩,fun c1 => ?_,fun c1 => ?_⟩
    · refine leS_osl ?_
      unfold bestS
      have l2:=hk.l2
      have sl:=hk.sl
      exact firstM_ne (by omega) c1
    · have e:bestS s0_0 s0_1 s0_2 s1 s2 s3 = []:=firstM_nil c1
      rw [e]
      exact leS_nosl)
end
end Go.MR
