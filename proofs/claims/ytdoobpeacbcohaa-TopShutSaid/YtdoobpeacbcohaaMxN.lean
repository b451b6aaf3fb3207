/- Rigs: numbers of states; what can follow a move. -/
import Derived.Test.YtdoobpeacbcohaaMxM
namespace Go.MR
open Go Go.Sx Go.Proofs
set_option linter.unusedVariables false
set_option linter.unusedSimpArgs false
noncomputable section
theorem numW_snoc:∀ (ps s:List Int) (q p n:Int),s.length = ps.length → numW (ps ++ [q]) (s ++ [p]) n = IntKind.i64.wrap (IntKind.i64.wrap (numW ps s n * q) + p)
  | [],[],q,p,n,_ => by simp [numW]
  | [],_ :: _,q,p,n,h => by simp at h
  | _ :: _,[],q,p,n,h => by simp at h
  | q1 :: ps,p1 :: s,q,p,n,h => by
    rw [List.cons_append,List.cons_append,numW,numW,numW_snoc ps s q p _ (by simpa using h)]
theorem getD_app {a b:List Int} {k:Nat} (h:k < a.length):(a ++ b).getD k 0 = a.getD k 0:=by
  rw [List.getD_eq_getElem?_getD,List.getD_eq_getElem?_getD,List.getElem?_append_left h]
theorem stR_app (ps:List Int) (q x:Int):∀ (k:Nat) (n:Int) (r:List Int),k ≤ ps.length → r.length = ps.length → stR (ps ++ [q]) k n (r ++ [x]) = stR ps k n r ++ [x]
  | 0,n,r,_,_ => rfl
  | k + 1,n,r,h,hr => by
    rw [stR,stR,getD_app (by omega),List.set_append_left _ _ (by omega),stR_app ps q x k _ _ (by omega) (by rw [List.length_set]; exact hr)]
theorem stS_snoc (ps:List Int) (q n:Int):stS (ps ++ [q]) n = stS ps (IntKind.i64.wrap (n.tdiv q)) ++ [n.tmod q]:=by
  unfold stS
  rw [List.length_append,List.length_singleton,stR]
  have e:(ps ++ [q]).getD ps.length 0 = q:=by
    rw [List.getD_eq_getElem?_getD,List.getElem?_append_right (Nat.le_refl _),Nat.sub_self]; rfl
  rw [e,List.replicate_succ',List.set_append_right _ _ (by rw [List.length_replicate]; omega),List.length_replicate,Nat.sub_self]
  show stR (ps ++ [q]) ps.length _ (List.replicate ps.length 0 ++ [n.tmod q]) = _
  rw [stR_app ps q _ ps.length _ _ (Nat.le_refl _) List.length_replicate]
theorem prodL_snoc:∀ (ps:List Int) (q:Int),prodL (ps ++ [q]) = prodL ps * q
  | [],q => by simp [prodL]
  | x :: ps,q => by rw [List.cons_append,prodL,prodL,prodL_snoc ps q,Int.mul_assoc]
theorem inR_snoc:∀ (s ps:List Int) (p q:Int),s.length = ps.length → inR (s ++ [p]) (ps ++ [q]) = (inR s ps && (decide (0 ≤ p) && decide (p < q)))
  | [],[],p,q,_ => by simp [inR]
  | [],_ :: _,q,p,h => by simp at h
  | _ :: _,[],q,p,h => by simp at h
  | p1 :: s,q1 :: ps,p,q,h => by
    rw [List.cons_append,List.cons_append,inR,inR,inR_snoc s ps p q (by simpa using h)]
    simp only [Bool.and_assoc]
theorem snoc_cases {α:Type} (l:List α):l = [] ∨ ∃ a x,l = a ++ [x]:=by
  cases h:l.reverse with
  | nil => exact .inl (by rw [← List.reverse_reverse l,h]; rfl)
  | cons x a => exact .inr ⟨a.reverse,x,by rw [← List.reverse_reverse l,h,List.reverse_cons]⟩
theorem any_snoc {ps:List Int} {q:Int} (h:(ps ++ [q]).any badP = false):ps.any badP = false ∧ 2 ≤ q ∧ q ≤ 8:=by
  rw [List.any_append,Bool.or_eq_false_iff] at h
  refine ⟨h.1,?_⟩
  have:=place_ne (i:=0) h.2 (by simp)
  exact this
theorem num_st:∀ (k:Nat) {ps:List Int} {n:Int},ps.length = k → ps.any badP = false → 0 ≤ n → n < prodL ps → prodL ps ≤ 4096 → numW ps (stS ps n) 0 = n
  | 0,ps,n,hk,_,h0,h1,_ => by
    have:ps = []:=List.eq_nil_of_length_eq_zero hk
    subst this
    rw [prodL] at h1
    show (0:Int) = n
    omega
  | k + 1,ps,n,hk,hb,h0,h1,h2 => by
    rcases snoc_cases ps with rfl | ⟨a,q,rfl⟩
    · simp at hk
    · obtain ⟨hb1,hq1,hq2⟩:=any_snoc hb
      rw [prodL_snoc] at h1 h2
      have hp:=prodL_rng hb1
      have hle:prodL a * 1 ≤ prodL a * q:=Int.mul_le_mul_of_nonneg_left (by omega) (by omega)
      have d0:0 ≤ n.tdiv q:=Int.tdiv_nonneg h0 (by omega)
      have hm0:0 ≤ n.tmod q:=Int.tmod_nonneg _ h0
      have hm1:n.tmod q < q:=Int.tmod_lt_of_pos _ (by omega)
      have hdm:=Int.mul_tdiv_add_tmod n q
      have d1:n.tdiv q < prodL a:=by
        apply Int.lt_of_mul_lt_mul_left (a:=q)
        · rw [Int.mul_comm q (prodL a)]; omega
        · omega
      rw [stS_snoc,numW_snoc _ _ _ _ _ (stS_len a _),W_id (n:=n.tdiv q) (by omega) (by omega),num_st k (by simpa using hk) hb1 d0 d1 (by omega)]
      have e:n.tdiv q * q = q * n.tdiv q:=Int.mul_comm _ _
      rw [W_id (n:=n.tdiv q * q) (by omega) (by omega),W_id (by omega) (by omega)]
      omega
theorem st_num:∀ (k:Nat) {ps s:List Int},ps.length = k → s.length = ps.length → ps.any badP = false → inR s ps = true → prodL ps ≤ 4096 → stS ps (numW ps s 0) = s ∧ 0 ≤ numW ps s 0 ∧ numW ps s 0 < prodL ps
  | 0,ps,s,hk,hs,_,_,_ => by
    have:ps = []:=List.eq_nil_of_length_eq_zero hk
    subst this
    have:s = []:=List.eq_nil_of_length_eq_zero hs
    subst this
    exact ⟨rfl,by decide,by decide⟩
  | k + 1,ps,s,hk,hs,hb,hi,h2 => by
    rcases snoc_cases ps with rfl | ⟨a,q,rfl⟩
    · simp at hk
    rcases snoc_cases s with rfl | ⟨b,p,rfl⟩
    · simp at hs
    have hs' : b.length = a.length:=by simpa using hs
    obtain ⟨hb1,hq1,hq2⟩:=any_snoc hb
    rw [prodL_snoc] at h2 ⊢
    rw [inR_snoc _ _ _ _ hs',Bool.and_eq_true,Bool.and_eq_true,decide_eq_true_eq,decide_eq_true_eq] at hi
    obtain ⟨hi1,hp0,hp1⟩:=hi
    have hp:=prodL_rng hb1
    have hle:prodL a * 1 ≤ prodL a * q:=Int.mul_le_mul_of_nonneg_left (by omega) (by omega)
    obtain ⟨ih1,ih2,ih3⟩:=st_num k (by simpa using hk) hs' hb1 hi1 (by omega)
    have m0:0 ≤ numW a b 0 * q:=Int.mul_nonneg ih2 (by omega)
    have m1:(numW a b 0 + 1) * q ≤ prodL a * q:=Int.mul_le_mul_of_nonneg_right (by omega) (by omega)
    rw [Int.add_mul] at m1
    have e:numW (a ++ [q]) (b ++ [p]) 0 = numW a b 0 * q + p:=by
      rw [numW_snoc _ _ _ _ _ hs',W_id (n:=numW a b 0 * q) (by omega) (by omega),W_id (by omega) (by omega)]
    rw [e]
    have d:(numW a b 0 * q + p).tdiv q = numW a b 0 ∧ (numW a b 0 * q + p).tmod q = p:=by
      rw [Int.tdiv_eq_ediv_of_nonneg (by omega),Int.tmod_eq_emod_of_nonneg (by omega)]
      rw [Int.add_comm,Int.add_mul_ediv_right _ _ (by omega),Int.add_mul_emod_self_right,Int.ediv_eq_zero_of_lt hp0 hp1,Int.emod_eq_of_lt hp0 hp1]
      omega
    refine ⟨?_,by omega,by omega⟩
    rw [stS_snoc,d.1,d.2,W_id (n:=numW a b 0) (by omega) (by omega),ih1]
def nexts:List Int → List Int → Nat → List (List Int × Nat)
  | p :: s,x :: m,l => (nexts s m l).map (fun y => ((p + x) :: y.1,y.2)) ++ (if x = 0 then [] else match l with
    | 0 => []
    | l + 1 => (nexts s m l).map (fun y => (p :: y.1,y.2)))
  | _,_,l => [([],l)]
def applyL:List Int → List Int → List Bool → List Int
  | p :: s,x :: m,bl => if x = 0 then p :: applyL s m bl else match bl with
    | b :: bl => (if b = true then p else p + x) :: applyL s m bl
    | [] => []
  | _,_,_ => []
theorem nexts_nil (l:Nat):nexts [] [] l = [([],l)]:=rfl
theorem nexts_cons (p:Int) (s:List Int) (x:Int) (m:List Int) (l:Nat):nexts (p :: s) (x :: m) l = (nexts s m l).map (fun y => ((p + x) :: y.1,y.2)) ++ (if x = 0 then [] else match l with
    | 0 => []
    | l + 1 => (nexts s m l).map (fun y => (p :: y.1,y.2))):=by cases l <;> rfl
theorem applyL_nil (bl:List Bool):applyL [] [] bl = []:=rfl
theorem applyL_z {p:Int} {s:List Int} {x:Int} {m:List Int} {bl:List Bool} (h:x = 0):applyL (p :: s) (x :: m) bl = p :: applyL s m bl:=by
  cases bl <;> simp [applyL,h]
theorem applyL_nz {p:Int} {s:List Int} {x:Int} {m:List Int} {b:Bool} {bl:List Bool} (h:x ≠ 0):applyL (p :: s) (x :: m) (b :: bl) = (if b = true then p else p + x) :: applyL s m bl:=by
  simp [applyL,h]
def cntB:List Bool → Nat
  | [] => 0
  | b :: l => (if b = true then 1 else 0) + cntB l
def nzC:List Int → Nat
  | [] => 0
  | x :: m => (if x = 0 then 0 else 1) + nzC m
theorem nzS_nzC:∀ (m:List Int) (i:Int),(nzS m i).length = nzC m
  | [],_ => rfl
  | x :: m,i => by
    rw [nzS,nzC]
    have:=nzS_nzC m (i + 1)
    by_cases h:x = 0
    · rw [if_neg (by simp [h]),if_pos h]; omega
    · rw [if_pos h,if_neg h,List.length_cons]; omega
theorem nexts_mem:∀ {s m:List Int} {l:Nat} {y:List Int × Nat},s.length = m.length → (y ∈ nexts s m l ↔ ∃ bl:List Bool,bl.length = nzC m ∧ cntB bl ≤ l ∧ y = (applyL s m bl,l - cntB bl))
  | [],[],l,y,_ => by
    rw [nexts_nil,List.mem_singleton]
    constructor
    · rintro rfl
      exact ⟨[],rfl,Nat.zero_le _,rfl⟩
    · rintro ⟨bl,h1,h2,rfl⟩
      have:bl = []:=List.eq_nil_of_length_eq_zero h1
      subst this
      rfl
  | [],_ :: _,l,y,h => by simp at h
  | _ :: _,[],l,y,h => by simp at h
  | p :: s,x :: m,l,y,h => by
    have hl:s.length = m.length:=by simpa using h
    rw [nexts_cons,List.mem_append,List.mem_map]
    by_cases hx:x = 0
    · subst hx
      rw [if_pos rfl,nzC,if_pos rfl,Nat.zero_add]
      constructor
      · rintro (⟨a,ha,rfl⟩ | h)
        · obtain ⟨bl,h1,h2,rfl⟩:=(nexts_mem hl).1 ha
          refine ⟨bl,h1,h2,?_⟩
          rw [applyL_z rfl,Int.add_zero]
        · cases h
      · rintro ⟨bl,h1,h2,rfl⟩
        refine .inl ⟨_,(nexts_mem hl).2 ⟨bl,h1,h2,rfl⟩,?_⟩
        rw [applyL_z rfl,Int.add_zero]
    · rw [if_neg hx,nzC,if_neg hx]
      constructor
      · rintro (⟨a,ha,rfl⟩ | ha)
        · obtain ⟨bl,h1,h2,rfl⟩:=(nexts_mem hl).1 ha
          refine ⟨false :: bl,by rw [List.length_cons]; omega,by rw [cntB]; simp; exact h2,?_⟩
          rw [applyL_nz hx,cntB]
          simp
        · cases l with
          | zero => cases ha
          | succ l =>
            dsimp only at ha
            obtain ⟨a,ha2,rfl⟩:=List.mem_map.1 ha
            obtain ⟨bl,h1,h2,rfl⟩:=(nexts_mem hl).1 ha2
            refine ⟨true :: bl,by rw [List.length_cons]; omega,by rw [cntB,if_pos rfl]; omega,?_⟩
            rw [applyL_nz hx,cntB,if_pos rfl]
            dsimp only
            rw [if_pos rfl,show l + 1 - (1 + cntB bl) = l - cntB bl by omega]
      · rintro ⟨bl,h1,h2,rfl⟩
        cases bl with
        | nil => simp at h1; omega
        | cons b bl =>
          have h1' : bl.length = nzC m:=by rw [List.length_cons] at h1; omega
          rw [cntB] at h2 ⊢
          rw [applyL_nz hx]
          cases b with
          | false =>
            refine .inl ⟨_,(nexts_mem hl).2 ⟨bl,h1',by simpa using h2,rfl⟩,?_⟩
            simp
          | true =>
            rw [if_pos rfl] at h2 ⊢
            cases l with
            | zero => omega
            | succ l =>
              refine .inr (List.mem_map.2 ⟨_,(nexts_mem hl).2 ⟨bl,h1',by omega,rfl⟩,?_⟩)
              dsimp only
              rw [if_pos rfl,show l + 1 - (1 + cntB bl) = l - cntB bl by omega]
def blS (set:Int):Int → Nat → List Bool
  | _,0 => []
  | k,n + 1 => (!bitB set k) :: blS set (k + 1) n
theorem blS_len (set:Int):∀ (n:Nat) (k:Int),(blS set k n).length = n
  | 0,_ => rfl
  | n + 1,k => by rw [blS,List.length_cons,blS_len]
def setB:List Bool → Int
  | [] => 0
  | b :: l => (if b = true then 1 else 0) + 2 * setB l
def allB:Nat → List (List Bool)
  | 0 => [[]]
  | n + 1 => (allB n).map (false :: ·) ++ (allB n).map (true :: ·)
theorem allB_mem:∀ {n:Nat} {b:List Bool},b.length = n → b ∈ allB n
  | 0,b,h => by
    have:b = []:=List.eq_nil_of_length_eq_zero h
    subst this; simp [allB]
  | n + 1,[],h => by simp at h
  | n + 1,b :: l,h => by
    have:=allB_mem (n:=n) (b:=l) (by simpa using h)
    rw [allB,List.mem_append,List.mem_map,List.mem_map]
    cases b with
    | false => exact .inl ⟨l,this,rfl⟩
    | true => exact .inr ⟨l,this,rfl⟩
def chkPop:Bool:=(List.range 5).all fun k => (List.range (2 ^ k)).all fun n => popS (n:Int) == (cntB (blS (n:Int) 0 k):Int)
def chkSet:Bool:=(List.range 5).all fun k => (allB k).all fun b => decide (0 ≤ setB b) && decide (setB b < ((2 ^ k:Nat):Int)) && (blS (setB b) 0 k == b)
theorem chkPop_ok:chkPop = true:=by kernel_rfl
theorem chkSet_ok:chkSet = true:=by kernel_rfl
theorem pop_cnt {k:Nat} {n:Int} (hk:k ≤ 4) (h0:0 ≤ n) (h:n < ((2 ^ k:Nat):Int)):popS n = (cntB (blS n 0 k):Int):=by
  have h1:=chkPop_ok
  unfold chkPop at h1
  rw [List.all_eq_true] at h1
  have h2:=h1 k (List.mem_range.2 (by omega))
  rw [List.all_eq_true] at h2
  have h3:=h2 n.toNat (List.mem_range.2 (by omega))
  rw [show ((n.toNat:Nat):Int) = n by omega] at h3
  exact eq_of_beq h3
theorem set_bits {k:Nat} {b:List Bool} (hk:k ≤ 4) (h:b.length = k):0 ≤ setB b ∧ setB b < ((2 ^ k:Nat):Int) ∧ blS (setB b) 0 k = b:=by
  have h1:=chkSet_ok
  unfold chkSet at h1
  rw [List.all_eq_true] at h1
  have h2:=h1 k (List.mem_range.2 (by omega))
  rw [List.all_eq_true] at h2
  have h3:=h2 b (allB_mem h)
  rw [Bool.and_eq_true,Bool.and_eq_true,decide_eq_true_eq,decide_eq_true_eq] at h3
  exact ⟨h3.1.1,h3.1.2,eq_of_beq h3.2⟩
def agr:List Int → List Int → List Int → Prop
  | x :: m,p :: s,y :: r => (x = 0 → y = p) ∧ agr m s r
  | [],[],[] => True
  | _,_,_ => False
theorem agr_self:∀ {m s:List Int},s.length = m.length → agr m s s
  | [],[],_ => trivial
  | [],_ :: _,h => by simp at h
  | _ :: _,[],h => by simp at h
  | x :: m,p :: s,h => ⟨fun _ => rfl,agr_self (by simpa using h)⟩
theorem agr_apply:∀ {m s:List Int} {bl:List Bool},s.length = m.length → bl.length = nzC m → agr m s (applyL s m bl)
  | [],[],_,_,_ => trivial
  | [],_ :: _,_,h,_ => by simp at h
  | _ :: _,[],_,h,_ => by simp at h
  | x :: m,p :: s,bl,h,hb => by
    have hl:s.length = m.length:=by simpa using h
    by_cases hx:x = 0
    · rw [applyL_z hx]
      rw [nzC,if_pos hx,Nat.zero_add] at hb
      exact ⟨fun _ => rfl,agr_apply hl hb⟩
    · rw [nzC,if_neg hx] at hb
      cases bl with
      | nil => simp at hb; omega
      | cons b bl =>
        rw [applyL_nz hx]
        exact ⟨fun e => absurd e hx,agr_apply hl (by rw [List.length_cons] at hb; omega)⟩
def smallM:List Int → List Int → Prop
  | p :: s,x :: m => IntKind.i64.wrap (p + x) = p + x ∧ smallM s m
  | _,_ => True
theorem getD_mid (a b:List Int) (x:Int):(a ++ x :: b).getD a.length 0 = x:=by
  rw [List.getD_eq_getElem?_getD,List.getElem?_append_right (Nat.le_refl _),Nat.sub_self]; rfl
theorem upS_apply (set:Int):∀ (m2 s2 r2 m1 s1 r1:List Int) (k:Int),s1.length = m1.length → r1.length = m1.length → agr m2 s2 r2 → smallM s2 m2 →
    upS (s1 ++ s2) (m1 ++ m2) set (nzS m2 m1.length) k (r1 ++ r2) = r1 ++ applyL s2 m2 (blS set k (nzC m2))
  | [],[],[],m1,s1,r1,k,h1,h2,_,_ => by rw [nzS,upS,applyL_nil]
  | [],[],_ :: _,_,_,_,_,_,_,h,_ => h.elim
  | [],_ :: _,_,_,_,_,_,_,_,h,_ => h.elim
  | _ :: _,[],_,_,_,_,_,_,_,h,_ => h.elim
  | _ :: _,_ :: _,[],_,_,_,_,_,_,h,_ => h.elim
  | x :: m2,p :: s2,y :: r2,m1,s1,r1,k,h1,h2,ha,hs => by
    have e1:∀ z:Int,m1 ++ z :: m2 = (m1 ++ [z]) ++ m2:=fun z => by simp
    have e2:∀ z:Int,s1 ++ z :: s2 = (s1 ++ [z]) ++ s2:=fun z => by simp
    have e3:∀ z:Int,r1 ++ z :: r2 = (r1 ++ [z]) ++ r2:=fun z => by simp
    have el:((m1.length:Nat):Int) + 1 = (((m1 ++ [x]).length:Nat):Int):=by simp
    rw [nzS,nzC]
    by_cases hx:x = 0
    · rw [if_neg (by simp [hx]),if_pos hx,Nat.zero_add,applyL_z hx,ha.1 hx,el,e1,e2,e3,upS_apply set m2 s2 r2 (m1 ++ [x]) (s1 ++ [p]) (r1 ++ [p]) k (by simp [h1]) (by simp [h2]) ha.2 hs.2]
      simp
    · rw [if_pos hx,if_neg hx,upS,Int.toNat_natCast]
      have g1:(s1 ++ p :: s2).getD m1.length 0 = p:=by rw [← h1]; exact getD_mid _ _ _
      have g2:(m1 ++ x :: m2).getD m1.length 0 = x:=getD_mid _ _ _
      have g3:∀ v:Int,(r1 ++ y :: r2).set m1.length v = r1 ++ v :: r2:=fun v => by
        rw [List.set_append_right _ _ (by omega),h2,Nat.sub_self]; rfl
      rw [g1,g2,hs.1,g3,Nat.add_comm 1 (nzC m2),blS,applyL_nz hx]
      rw [el,e1,e2,e3,upS_apply set m2 s2 r2 (m1 ++ [x]) (s1 ++ [p]) _ (k + 1) (by simp [h1]) (by simp [h2]) ha.2 hs.2,List.append_assoc]
      congr 1
      rw [List.singleton_append]
      congr 1
      cases bitB set k <;> rfl
theorem tkS_get (tk:List Int) (l n:Int) (h0:0 ≤ n) (h:n < 4096):tkS tk l n = tk.getD (l.toNat * 4096 + n.toNat) 0:=by
  unfold tkS
  rw [List.getD_eq_getElem?_getD,List.getD_eq_getElem?_getD,List.getElem?_take,if_pos (by omega),List.getElem?_drop]
def okT (ps tk:List Int) (t:Int) (y:List Int × Nat):Bool:=!decide (tkS tk y.2 (numW ps y.1 0) < 0) && !decide (tkS tk y.2 (numW ps y.1 0) > t)
theorem setsS_all {ps tk s m:List Int} {losses t:Int} (hl:s.length = m.length) (hs:smallM s m) (h0:0 ≤ losses) (h4:nzC m ≤ 4):∀ (k:Nat) (set:Int) (r:List Int),0 ≤ set → set + k ≤ ((2 ^ nzC m:Nat):Int) → agr m s r →
    (setsS ps tk s m losses t (nzS m 0) k set r = true ↔ ∀ j:Int,set ≤ j → j < set + k → cntB (blS j 0 (nzC m)) ≤ losses.toNat → okT ps tk t (applyL s m (blS j 0 (nzC m)),losses.toNat - cntB (blS j 0 (nzC m))) = true)
  | 0,set,r,_,_,_ => by
    rw [setsS]
    exact ⟨fun _ j h1 h2 => by omega,fun _ => rfl⟩
  | k + 1,set,r,hset,hk,ha => by
    have hpop:=pop_cnt h4 hset (by omega)
    have eu:upS s m set (nzS m 0) 0 r = applyL s m (blS set 0 (nzC m)):=by
      have:=upS_apply set m s r [] [] [] 0 rfl rfl ha hs
      simpa using this
    have hag:agr m s (applyL s m (blS set 0 (nzC m))):=agr_apply hl (blS_len _ _ _)
    rw [setsS,eu,hpop]
    have hcast:((k + 1:Nat):Int) = k + 1:=by omega
    have split' : ∀ p:Int → Prop,(∀ j:Int,set ≤ j → j < set + ((k + 1:Nat):Int) → p j) ↔ p set ∧ ∀ j:Int,set + 1 ≤ j → j < set + 1 + k → p j:=fun p =>
      ⟨fun h => ⟨h set (by omega) (by omega),fun j h1 h2 => h j (by omega) (by omega)⟩,fun h j h1 h2 => by
        by_cases e:j = set
        · subst e; exact h.1
        · exact h.2 j (by omega) (by omega)⟩
    rw [split']
    by_cases c:(cntB (blS set 0 (nzC m)):Int) > losses
    · rw [if_pos c,setsS_all hl hs h0 h4 k (set + 1) r (by omega) (by omega) ha]
      exact ⟨fun h => ⟨fun h1 => by omega,h⟩,fun h => h.2⟩
    · rw [if_neg c]
      have el:losses - (cntB (blS set 0 (nzC m)):Int) = ((losses.toNat - cntB (blS set 0 (nzC m)):Nat):Int):=by omega
      rw [el]
      generalize hX:losses.toNat - cntB (blS set 0 (nzC m)) = left
      have hok:okT ps tk t (applyL s m (blS set 0 (nzC m)),left) = false ↔ (tkS tk (left:Int) (numW ps (applyL s m (blS set 0 (nzC m))) 0) < 0 ∨ tkS tk (left:Int) (numW ps (applyL s m (blS set 0 (nzC m))) 0) > t):=by
        unfold okT
        rw [Bool.and_eq_false_iff,Bool.not_eq_false',Bool.not_eq_false',decide_eq_true_eq,decide_eq_true_eq]
      by_cases d:tkS tk (left:Int) (numW ps (applyL s m (blS set 0 (nzC m))) 0) < 0 ∨ tkS tk (left:Int) (numW ps (applyL s m (blS set 0 (nzC m))) 0) > t
      · rw [if_pos d]
        constructor
        · intro h; cases h
        · intro h
          have:=h.1 (by omega)
          rw [hok.2 d] at this
          cases this
      · rw [if_neg d,setsS_all hl hs h0 h4 k (set + 1) _ (by omega) (by omega) hag]
        have ht:okT ps tk t (applyL s m (blS set 0 (nzC m)),left) = true:=by
          cases e:okT ps tk t (applyL s m (blS set 0 (nzC m)),left) with
          | true => rfl
          | false => exact absurd (hok.1 e) d
        exact ⟨fun h => ⟨fun _ => ht,h⟩,fun h => h.2⟩
theorem nzC_le:∀ m:List Int,nzC m ≤ m.length
  | [] => Nat.le_refl _
  | x :: m => by
    rw [nzC,List.length_cons]
    have:=nzC_le m
    split <;> omega
theorem reachS_all {ps tk s m:List Int} {losses t:Int} (hl:s.length = m.length) (hs:smallM s m) (h0:0 ≤ losses) (h4:m.length ≤ 4) :
    reachS ps tk s m losses t = (nexts s m losses.toNat).all (okT ps tk t):=by
  have h4' : nzC m ≤ 4:=by have:=nzC_le m; omega
  rw [Bool.eq_iff_iff]
  unfold reachS
  rw [nzS_nzC,setsS_all hl hs h0 h4' _ 0 s (by omega) (by omega) (agr_self hl),List.all_eq_true]
  constructor
  · intro h y hy
    obtain ⟨bl,h1,h2,rfl⟩:=(nexts_mem hl).1 hy
    obtain ⟨b0,b1,b2⟩:=set_bits h4' h1
    have:=h (setB bl) b0 (by omega) (by rw [b2]; exact h2)
    rw [b2] at this
    exact this
  · intro h j h1 h2 h3
    exact h _ ((nexts_mem hl).2 ⟨_,blS_len _ _ _,h3,rfl⟩)
end
end Go.MR
