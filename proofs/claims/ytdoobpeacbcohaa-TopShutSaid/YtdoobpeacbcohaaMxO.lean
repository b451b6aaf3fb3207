/- Rigs: what the table holds: the least ticks. -/
import Derived.Test.YtdoobpeacbcohaaMxN
namespace Go.MR
open Go Go.Sx Go.Proofs
set_option linter.unusedVariables false
set_option linter.unusedSimpArgs false
noncomputable section
def lst (p:Nat → Bool):Nat → Int
  | 0 => -1
  | n + 1 => if 0 ≤ lst p n then lst p n else if p n = true then (n:Int) else -1
theorem lst_spec (p:Nat → Bool):∀ n:Nat,(lst p n = -1 ∧ ∀ d,d < n → p d = false) ∨ ∃ k:Nat,lst p n = k ∧ k < n ∧ p k = true ∧ ∀ d,d < k → p d = false
  | 0 => .inl ⟨rfl,fun d h => by omega⟩
  | n + 1 => by
    rcases lst_spec p n with ⟨h1,h2⟩ | ⟨k,h1,h2,h3,h4⟩
    · rw [lst,h1,if_neg (by omega)]
      cases hp:p n with
      | true => exact .inr ⟨n,by rw [if_pos rfl],by omega,hp,h2⟩
      | false =>
        refine .inl ⟨by rw [if_neg (by decide)],fun d hd => ?_⟩
        by_cases e:d = n
        · subst e; exact hp
        · exact h2 d (by omega)
    · exact .inr ⟨k,by rw [lst,h1,if_pos (by omega)],by omega,h3,h4⟩
theorem lst_lt (p:Nat → Bool) (n:Nat) : -1 ≤ lst p n ∧ lst p n < n:=by
  rcases lst_spec p n with ⟨h1,_⟩ | ⟨k,h1,h2,_⟩ <;> omega
theorem lst_mono {p:Nat → Bool} (hp:∀ d,p d = true → p (d + 1) = true) {n:Nat}:decide (0 ≤ lst p (n + 1)) = p n:=by
  have up:∀ k d:Nat,p d = true → p (d + k) = true:=fun k => by
    induction k with
    | zero => exact fun d h => h
    | succ k ih => exact fun d h => hp _ (ih d h)
  rcases lst_spec p (n + 1) with ⟨h1,h2⟩ | ⟨k,h1,h2,h3,h4⟩
  · rw [h1,h2 n (by omega)]; decide
  · rw [h1,decide_eq_true (by omega)]
    have:=up (n - k) k h3
    rw [show k + (n - k) = n by omega] at this
    exact this.symm
theorem lst_same {p:Nat → Bool} {n:Nat} (h:∀ d,n ≤ d → p d = true → 0 ≤ lst p n):∀ m:Nat,n ≤ m → lst p m = lst p n
  | 0,h0 => by rw [show n = 0 by omega]
  | m + 1,h0 => by
    by_cases e:n = m + 1
    · rw [e]
    · have ih:=lst_same h m (by omega)
      rw [lst,ih]
      split
      · rfl
      · rename_i hn
        have hl:=lst_lt p n
        cases hp:p m with
        | true => exact absurd (h m (by omega) hp) hn
        | false => rw [if_neg (by decide)]; omega
def reD (ps:List Int) (bs:List Ban) (g:List (Int × Int)):Nat → Nat → List Int → Bool
  | 0,l,s => safeS ps bs s && inG s g
  | d + 1,l,s => reD ps bs g d l s || (safeS ps bs s && (allM s.length).any fun m => okM ps bs s m && (nexts s m l).all fun y => reD ps bs g d y.2 y.1)
theorem reD_mono {ps:List Int} {bs:List Ban} {g:List (Int × Int)} {l:Nat} {s:List Int} (d:Nat) (h:reD ps bs g d l s = true):reD ps bs g (d + 1) l s = true:=by
  rw [reD,h,Bool.true_or]
def tickD (ps:List Int) (bs:List Ban) (g:List (Int × Int)) (l:Nat) (s:List Int):Int:=lst (fun d => reD ps bs g d l s) 65
structure VS (ps s:List Int):Prop where
  sl:s.length = ps.length
  si:inR s ps = true
theorem allM_is:∀ {n:Nat} {m:List Int},m ∈ allM n → isM m
  | 0,m,h => by rw [allM,List.mem_singleton] at h; subst h; intro x hx; cases hx
  | n + 1,m,h => by
    rw [allM,List.mem_append,List.mem_append,List.mem_map,List.mem_map,List.mem_map] at h
    rcases h with ⟨a,ha,rfl⟩ | ⟨a,ha,rfl⟩ | ⟨a,ha,rfl⟩ <;>
    · intro x hx
      rcases List.mem_cons.1 hx with rfl | hx
      · first | exact .inl rfl | exact .inr (.inl rfl) | exact .inr (.inr rfl)
      · exact allM_is ha x hx
theorem small_of:∀ {ps s m:List Int},ps.any badP = false → s.length = ps.length → inR s ps = true → isM m → smallM s m
  | [],[],m,_,_,_,_ => by unfold smallM; trivial
  | [],_ :: _,m,_,h,_,_ => by simp at h
  | _ :: _,[],m,_,h,_,_ => by simp at h
  | q :: ps,p :: s,[],_,_,_,_ => by unfold smallM; trivial
  | q :: ps,p :: s,x :: m,hb,hl,hi,hm => by
    have hq:=place_ne (i:=0) hb (by simp)
    rw [show (q :: ps).getD 0 0 = q from rfl] at hq
    rw [List.any_cons,Bool.or_eq_false_iff] at hb
    rw [inR,Bool.and_eq_true,Bool.and_eq_true,decide_eq_true_eq,decide_eq_true_eq] at hi
    have hx:=hm x (by simp)
    refine ⟨W_id (by omega) (by omega),small_of hb.2 (by simpa using hl) hi.2 (fun y hy => hm y (List.mem_cons_of_mem _ hy))⟩
theorem nexts_vs:∀ {ps s m:List Int} {l:Nat} {y:List Int × Nat},ps.any badP = false → s.length = ps.length → m.length = ps.length → inR s ps = true → isM m → wayOk s m ps = true → y ∈ nexts s m l → VS ps y.1 ∧ y.2 ≤ l
  | [],[],[],l,y,_,_,_,_,_,_,h => by
    rw [nexts_nil,List.mem_singleton] at h
    subst h
    exact ⟨⟨rfl,rfl⟩,Nat.le_refl _⟩
  | [],_ :: _,_,_,_,_,h,_,_,_,_,_ => by simp at h
  | [],_,_ :: _,_,_,_,_,h,_,_,_,_ => by simp at h
  | _ :: _,[],_,_,_,_,h,_,_,_,_,_ => by simp at h
  | _ :: _,_,[],_,_,_,_,h,_,_,_,_ => by simp at h
  | q :: ps,p :: s,x :: m,l,y,hb,hl,hml,hi,hm,hw,h => by
    have hq:=place_ne (i:=0) hb (by simp)
    rw [show (q :: ps).getD 0 0 = q from rfl] at hq
    rw [List.any_cons,Bool.or_eq_false_iff] at hb
    rw [inR,Bool.and_eq_true,Bool.and_eq_true,decide_eq_true_eq,decide_eq_true_eq] at hi
    have hx:=hm x (by simp)
    have hm' : isM m:=fun y hy => hm y (List.mem_cons_of_mem _ hy)
    rw [wayOk,Bool.and_eq_true] at hw
    have hw1:=hw.1
    unfold wi at hw1
    rw [Bool.and_eq_true,decide_eq_true_eq,decide_eq_true_eq,W_id (n:=p + x) (by omega) (by omega),W_id (n:=q - 1) (by omega) (by omega)] at hw1
    have mk:∀ (v:Int) (l' : Nat) (z:List Int × Nat),0 ≤ v → v < q → l' ≤ l → z ∈ nexts s m l' → VS (q :: ps) (v :: z.1) ∧ z.2 ≤ l:=fun v l' z h0 h1 h2 hz => by
      obtain ⟨⟨v1,v2⟩,v3⟩:=nexts_vs hb.2 (by simpa using hl) (by simpa using hml) hi.2 hm' hw.2 hz
      refine ⟨⟨by simp [v1],?_⟩,by omega⟩
      rw [inR,Bool.and_eq_true,Bool.and_eq_true,decide_eq_true_eq,decide_eq_true_eq]
      exact ⟨⟨h0,h1⟩,v2⟩
    rw [nexts_cons,List.mem_append,List.mem_map] at h
    rcases h with ⟨z,hz,rfl⟩ | h
    · exact mk (p + x) l z hw1.1 (by omega) (Nat.le_refl _) hz
    · split at h
      · cases h
      · cases l with
        | zero => cases h
        | succ l =>
          dsimp only at h
          obtain ⟨z,hz,rfl⟩:=List.mem_map.1 h
          exact mk p l z hi.1.1 hi.1.2 (by omega) hz
def tkL (tk ps:List Int) (l:Nat) (s:List Int):Int:=tk.getD (l * 4096 + (numW ps s 0).toNat) 0
structure RgOk (ps:List Int) (bs:List Ban):Prop where
  l2:2 ≤ ps.length
  l4:ps.length ≤ 4
  pb:ps.any badP = false
theorem RgOk.pr {ps:List Int} {bs:List Ban} (h:RgOk ps bs):1 ≤ prodL ps ∧ prodL ps ≤ 4096:=by
  have h1:=prodL_rng h.pb
  have h2:=pow_le h.l4
  omega
theorem RgOk.num {ps:List Int} {bs:List Ban} (h:RgOk ps bs) {s:List Int} (hs:VS ps s):stS ps (numW ps s 0) = s ∧ 0 ≤ numW ps s 0 ∧ numW ps s 0 < prodL ps:=st_num _ rfl hs.sl h.pb hs.si h.pr.2
theorem RgOk.st {ps:List Int} {bs:List Ban} (h:RgOk ps bs) {n:Int} (h0:0 ≤ n) (h1:n < prodL ps):VS ps (stS ps n) ∧ numW ps (stS ps n) 0 = n :=
  ⟨⟨stS_len _ _,stS_in h.pb h0 (by have:=h.pr; omega)⟩,num_st _ rfl h.pb h0 h1 h.pr.2⟩
theorem RgOk.many {ps:List Int} {bs:List Ban} (h:RgOk ps bs):manyW ps 1 = prodL ps:=by
  rw [manyW_eq h.pb (by omega) (by have:=h.pr; omega),Int.one_mul]
theorem set_get {l:List Int} {i j:Nat} {v:Int}:(l.set i v).getD j 0 = if j = i ∧ i < l.length then v else l.getD j 0:=by
  by_cases h:i < l.length
  · rw [getD_set h]
    by_cases e:j = i <;> simp [e,h]
  · rw [List.set_eq_of_length_le (by omega),if_neg (fun e => h e.2)]
theorem putL_get {layer:Int} {l n:Int} (hl:0 ≤ l ∧ l ≤ 2) (hn:0 ≤ n ∧ n < 4096):∀ (f:List (Int × Int)) (tk:List Int),(∀ x ∈ f,0 ≤ x.1 ∧ x.1 ≤ 2 ∧ 0 ≤ x.2 ∧ x.2 < 4096) → tk.length = 12288 →
    (putL layer f tk).getD (l.toNat * 4096 + n.toNat) 0 = if (l,n) ∈ f then layer else tk.getD (l.toNat * 4096 + n.toNat) 0
  | [],tk,_,_ => by rw [putL,if_neg (by simp)]
  | x :: f,tk,hf,ht => by
    obtain ⟨a,b,c,d⟩:=hf x (by simp)
    rw [putL,putL_get hl hn f _ (fun y hy => hf y (List.mem_cons_of_mem _ hy)) (by rw [List.length_set]; exact ht),set_get]
    by_cases e:(l,n) = x
    · subst e
      rw [if_pos (show (l,n) ∈ (l,n) :: f by simp)]
      by_cases g:(l,n) ∈ f
      · rw [if_pos g]
      · rw [if_neg g,if_pos ⟨rfl,by show l.toNat * 4096 + n.toNat < _; omega⟩]
    · have ne:¬ (l.toNat * 4096 + n.toNat = x.1.toNat * 4096 + x.2.toNat ∧ x.1.toNat * 4096 + x.2.toNat < tk.length):=fun h => by
        apply e
        have h1:l = x.1 ∧ n = x.2:=by omega
        rw [h1.1,h1.2]
      rw [if_neg ne]
      by_cases g:(l,n) ∈ f
      · rw [if_pos g,if_pos (List.mem_cons_of_mem _ g)]
      · rw [if_neg g,if_neg (by rw [List.mem_cons]; exact fun h => h.elim e g)]
theorem putR_get {n v:Int} (hn:0 ≤ n ∧ n < 4096) {l n' : Int} (hl:0 ≤ l ∧ l ≤ 2) (hn' : 0 ≤ n' ∧ n' < 4096) {tk:List Int} (ht:tk.length = 12288) :
    (putR n v 3 0 tk).getD (l.toNat * 4096 + n'.toNat) 0 = if n' = n then v else tk.getD (l.toNat * 4096 + n'.toNat) 0:=by
  rw [putR,putR,putR,putR,set_get,set_get,set_get]
  simp only [List.length_set,ht]
  have:l = 0 ∨ l = 1 ∨ l = 2:=by omega
  by_cases e:n' = n
  · subst e
    rw [if_pos rfl]
    rcases this with rfl | rfl | rfl
    · rw [if_neg (by omega),if_neg (by omega),if_pos ⟨rfl,by omega⟩]
    · rw [if_neg (by omega),if_pos ⟨by omega,by omega⟩]
    · rw [if_pos ⟨by omega,by omega⟩]
  · rw [if_neg e]
    rcases this with rfl | rfl | rfl
    · rw [if_neg (by omega),if_neg (by omega),if_neg (by omega)]
    · rw [if_neg (by omega),if_neg (by omega),if_neg (by omega)]
    · rw [if_neg (by omega),if_neg (by omega),if_neg (by omega)]
theorem initR_get {ps:List Int} {bs:List Ban} {g:List (Int × Int)}:∀ (k:Nat) (n:Int) (x:List Int × List Bool),0 ≤ n → n + k ≤ 4096 → x.1.length = 12288 → x.2.length = 4096 → ∀ l n' : Int,0 ≤ l ∧ l ≤ 2 → 0 ≤ n' ∧ n' < 4096 →
    (initR ps bs g k n x).1.getD (l.toNat * 4096 + n'.toNat) 0 = (if n ≤ n' ∧ n' < n + k then (if inS ps bs g n' = true then 0 else -1) else x.1.getD (l.toNat * 4096 + n'.toNat) 0) ∧
    (initR ps bs g k n x).2.getD n'.toNat false = (if n ≤ n' ∧ n' < n + k then safeS ps bs (stS ps n') else x.2.getD n'.toNat false)
  | 0,n,x,h0,h1,h2,h3,l,n',hl,hn => by
    rw [initR,if_neg (by omega),if_neg (by omega)]
    exact ⟨rfl,rfl⟩
  | k + 1,n,x,h0,h1,h2,h3,l,n',hl,hn => by
    rw [initR]
    obtain ⟨e1,e2⟩:=initR_get (ps:=ps) (bs:=bs) (g:=g) k (n + 1) (putR n (if inS ps bs g n = true then 0 else -1) 3 0 x.1,x.2.set n.toNat (safeS ps bs (stS ps n))) (by omega) (by omega) (by show (putR _ _ _ _ _).length = _; rw [putR_len]; exact h2) (by show (List.set _ _ _).length = _; rw [List.length_set]; exact h3) l n' hl hn
    rw [e1,e2]
    dsimp only
    rw [putR_get (by omega) hl hn h2]
    have e3:∀ v:Bool,(x.2.set n.toNat v).getD n'.toNat false = if n' = n then v else x.2.getD n'.toNat false:=fun v => by
      rw [List.getD_eq_getElem?_getD,List.getElem?_set,List.getD_eq_getElem?_getD]
      by_cases e:n' = n
      · subst e; rw [if_pos rfl,if_pos rfl,if_pos (by omega)]; rfl
      · rw [if_neg (by omega),if_neg e]
    rw [e3]
    by_cases e:n' = n
    · subst e
      have c1:¬ (n' + 1 ≤ n' ∧ n' < n' + 1 + (k:Int)):=by omega
      have c2:n' ≤ n' ∧ n' < n' + ((k + 1:Nat):Int):=by omega
      rw [if_pos rfl,if_pos rfl,if_neg c1,if_neg c1,if_pos c2,if_pos c2]
      exact ⟨rfl,rfl⟩
    · rw [if_neg e,if_neg e]
      by_cases c:n + 1 ≤ n' ∧ n' < n + 1 + k
      · have c2:n ≤ n' ∧ n' < n + ((k + 1:Nat):Int):=by omega
        rw [if_pos c,if_pos c,if_pos c2,if_pos c2]
        exact ⟨rfl,rfl⟩
      · have c2:¬ (n ≤ n' ∧ n' < n + ((k + 1:Nat):Int)):=by omega
        rw [if_neg c,if_neg c,if_neg c2,if_neg c2]
        exact ⟨rfl,rfl⟩
theorem init0_get {ps:List Int} {bs:List Ban} (h:RgOk ps bs) (g:List (Int × Int)) {l:Nat} (hl:l ≤ 2) {s:List Int} (hs:VS ps s) :
    tkL (init0 ps bs g).1 ps l s = lst (fun d => reD ps bs g d l s) 1 ∧ (cntSf ps bs g).getD (numW ps s 0).toNat false = safeS ps bs s:=by
  obtain ⟨n1,n2,n3⟩:=h.num hs
  have hp:=h.pr
  have hm:=h.many
  obtain ⟨e1,e2⟩:=initR_get (ps:=ps) (bs:=bs) (g:=g) (manyW ps 1).toNat 0 (List.replicate (3 * (4096 * 1)) 0,List.replicate (4096 * 1) false) (by omega) (by omega) List.length_replicate List.length_replicate l (numW ps s 0) (by omega) (by omega)
  have c:(0:Int) ≤ numW ps s 0 ∧ numW ps s 0 < 0 + ((manyW ps 1).toNat:Int):=by omega
  rw [if_pos c,Int.toNat_natCast] at e1
  rw [if_pos c] at e2
  unfold tkL cntSf init0
  rw [e1,e2,n1]
  refine ⟨?_,rfl⟩
  unfold inS
  rw [lst,lst,reD,n1]
  rw [if_neg (show ¬ (0:Int) ≤ -1 by omega)]
  rfl
def InvT (ps:List Int) (bs:List Ban) (g:List (Int × Int)) (losses:Nat) (tk:List Int) (layer:Nat):Prop :=
  tk.length = 12288 ∧ ∀ (l:Nat) (s:List Int),l ≤ losses → VS ps s → tkL tk ps l s = lst (fun d => reD ps bs g d l s) layer
def anyD (ps:List Int) (bs:List Ban) (g:List (Int × Int)) (d l:Nat) (s:List Int):Bool:=(allM s.length).any fun m => okM ps bs s m && (nexts s m l).all fun y => reD ps bs g d y.2 y.1
theorem all_congr {α:Type} {p q:α → Bool}:∀ {l:List α},(∀ x ∈ l,p x = q x) → l.all p = l.all q
  | [],_ => rfl
  | x :: l,h => by rw [List.all_cons,List.all_cons,h x (by simp),all_congr (fun y hy => h y (List.mem_cons_of_mem _ hy))]
theorem any_congr {α:Type} {p q:α → Bool}:∀ {l:List α},(∀ x ∈ l,p x = q x) → l.any p = l.any q
  | [],_ => rfl
  | x :: l,h => by rw [List.any_cons,List.any_cons,h x (by simp),any_congr (fun y hy => h y (List.mem_cons_of_mem _ hy))]
theorem take_eq {ps:List Int} {bs:List Ban} {g:List (Int × Int)} {losses:Nat} {tk:List Int} {d:Nat} (h:RgOk ps bs) (hI:InvT ps bs g losses tk (d + 1)) {l:Nat} (hl:l ≤ losses) {s m:List Int} (hs:VS ps s) (hm:m ∈ allM s.length) :
    takeM ps bs tk s (l:Int) (d:Int) m = (okM ps bs s m && (nexts s m l).all fun y => reD ps bs g d y.2 y.1):=by
  unfold takeM
  cases ho:okM ps bs s m with
  | false => rw [Bool.false_and,Bool.false_and]
  | true =>
    have hml:=allM_len hm
    have hmi:=allM_is hm
    have sl:=hs.sl
    have l4:=h.l4
    have hp:=h.pr
    rw [Bool.true_and,Bool.true_and,reachS_all hml.symm (small_of h.pb hs.sl hs.si hmi) (by omega) (by omega),Int.toNat_natCast]
    unfold okM at ho
    rw [Bool.and_eq_true] at ho
    refine all_congr fun y hy => ?_
    obtain ⟨v1,v2⟩:=nexts_vs h.pb hs.sl (by omega) hs.si hmi (waysS_ok ho.1) hy
    obtain ⟨n1,n2,n3⟩:=h.num v1
    have e:=hI.2 y.2 y.1 (by omega) v1
    unfold tkL at e
    unfold okT
    rw [tkS_get _ _ _ n2 (by omega),Int.toNat_natCast,e]
    have hmn:=lst_mono (p:=fun d => reD ps bs g d y.2 y.1) (fun d h => reD_mono d h) (n:=d)
    rw [← hmn]
    have hlt:=lst_lt (fun d => reD ps bs g d y.2 y.1) (d + 1)
    generalize lst (fun d => reD ps bs g d y.2 y.1) (d + 1) = z at *
    by_cases c:z < 0
    · rw [decide_eq_true c,decide_eq_false (show ¬ 0 ≤ z by omega)]; rfl
    · rw [decide_eq_false c,decide_eq_false (show ¬ z > (d:Int) by omega),decide_eq_true (show 0 ≤ z by omega)]; rfl
theorem best_any {ps:List Int} {bs:List Ban} {g:List (Int × Int)} {losses:Nat} {tk:List Int} {d:Nat} (h:RgOk ps bs) (hI:InvT ps bs g losses tk (d + 1)) {l:Nat} (hl:l ≤ losses) {s:List Int} (hs:VS ps s) :
    (!(bestS ps bs tk s (l:Int) (d:Int)).isEmpty) = anyD ps bs g d l s:=by
  have e:(allM s.length).any (takeM ps bs tk s (l:Int) (d:Int)) = anyD ps bs g d l s:=any_congr fun m hm => take_eq h hI hl hs hm
  rw [← e]
  unfold bestS
  cases c:(allM s.length).any (takeM ps bs tk s (l:Int) (d:Int)) with
  | true =>
    have sl:=hs.sl
    have l2:=h.l2
    have:=firstM_ne (by omega) c
    cases e2:firstM (takeM ps bs tk s (l:Int) (d:Int)) (allM s.length) with
    | nil => exact absurd e2 this
    | cons _ _ => rfl
  | false => rw [firstM_nil c]; rfl
theorem good_eq {ps:List Int} {bs:List Ban} {g:List (Int × Int)} {losses:Nat} {tk:List Int} {d:Nat} (h:RgOk ps bs) (hI:InvT ps bs g losses tk (d + 1)) (hlo:losses ≤ 2) {l:Nat} (hl:l ≤ losses) {s:List Int} (hs:VS ps s) :
    goodN ps bs (cntSf ps bs g) tk (l:Int) ((d + 1:Nat):Int) (numW ps s 0) = (!reD ps bs g d l s && reD ps bs g (d + 1) l s):=by
  obtain ⟨n1,n2,n3⟩:=h.num hs
  have e1:=(init0_get h g (show l ≤ 2 by omega) hs).2
  have e2:=hI.2 l s hl hs
  unfold tkL at e2
  unfold goodN
  rw [e1,Int.toNat_natCast,e2,n1,show (((d + 1:Nat):Int)) - 1 = (d:Int) by omega,best_any h hI hl hs]
  have hmn:=lst_mono (p:=fun d => reD ps bs g d l s) (fun d h => reD_mono d h) (n:=d)
  rw [reD,← hmn]
  have e3:decide (lst (fun d => reD ps bs g d l s) (d + 1) < 0) = !decide (0 ≤ lst (fun d => reD ps bs g d l s) (d + 1)):=by
    by_cases c:0 ≤ lst (fun d => reD ps bs g d l s) (d + 1)
    · rw [decide_eq_true c,decide_eq_false (by omega)]; rfl
    · rw [decide_eq_false c,decide_eq_true (by omega)]; rfl
  rw [e3]
  show (safeS ps bs s && (!decide _ && anyD ps bs g d l s)) = (!decide _ && (decide _ || (safeS ps bs s && anyD ps bs g d l s)))
  cases decide (0 ≤ lst (fun d => reD ps bs g d l s) (d + 1)) <;> cases safeS ps bs s <;> cases anyD ps bs g d l s <;> rfl
theorem freshN_mem {ps:List Int} {bs:List Ban} {sf:List Bool} {tk:List Int} {l layer:Int}:∀ (k:Nat) (n:Int) (f:List (Int × Int)) (x:Int × Int),x ∈ freshN ps bs sf tk l layer k n f ↔ x ∈ f ∨ (x.1 = l ∧ n ≤ x.2 ∧ x.2 < n + k ∧ goodN ps bs sf tk l layer x.2 = true)
  | 0,n,f,x => by
    rw [freshN]
    exact ⟨.inl,fun h => h.elim id (fun h => by omega)⟩
  | k + 1,n,f,x => by
    rw [freshN,freshN_mem k (n + 1) _ x]
    have key:x ∈ (if goodN ps bs sf tk l layer n = true then f ++ [(l,n)] else f) ↔ x ∈ f ∨ (x.1 = l ∧ x.2 = n ∧ goodN ps bs sf tk l layer x.2 = true):=by
      by_cases c:goodN ps bs sf tk l layer n = true
      · rw [if_pos c,List.mem_append,List.mem_singleton]
        constructor
        · rintro (h | rfl)
          · exact .inl h
          · exact .inr ⟨rfl,rfl,c⟩
        · rintro (h | ⟨h1,h2,h3⟩)
          · exact .inl h
          · exact .inr (by rw [← h1,← h2])
      · rw [if_neg c]
        exact ⟨.inl,fun h => h.elim id (fun h => by rw [h.2.1] at h; exact absurd h.2.2 c)⟩
    rw [key]
    constructor
    · rintro ((h | ⟨h1,h2,h3⟩) | ⟨h1,h2,h3,h4⟩)
      · exact .inl h
      · exact .inr ⟨h1,by omega,by omega,h3⟩
      · exact .inr ⟨h1,by omega,by omega,h4⟩
    · rintro (h | ⟨h1,h2,h3,h4⟩)
      · exact .inl (.inl h)
      · by_cases e:x.2 = n
        · exact .inl (.inr ⟨h1,e,h4⟩)
        · exact .inr ⟨h1,by omega,by omega,h4⟩
theorem freshL_mem {ps:List Int} {bs:List Ban} {sf:List Bool} {tk:List Int} {many layer:Int}:∀ (k:Nat) (l:Int) (f:List (Int × Int)) (x:Int × Int),x ∈ freshL ps bs sf tk many layer k l f ↔ x ∈ f ∨ (l ≤ x.1 ∧ x.1 < l + k ∧ 0 ≤ x.2 ∧ x.2 < many.toNat ∧ goodN ps bs sf tk x.1 layer x.2 = true)
  | 0,l,f,x => by
    rw [freshL]
    exact ⟨.inl,fun h => h.elim id (fun h => by omega)⟩
  | k + 1,l,f,x => by
    rw [freshL,freshL_mem k (l + 1) _ x,freshN_mem]
    constructor
    · rintro ((h | ⟨h1,h2,h3,h4⟩) | ⟨h1,h2,h3,h4,h5⟩)
      · exact .inl h
      · exact .inr ⟨by omega,by omega,h2,by omega,by rw [h1]; exact h4⟩
      · exact .inr ⟨by omega,by omega,h3,h4,h5⟩
    · rintro (h | ⟨h1,h2,h3,h4,h5⟩)
      · exact .inl (.inl h)
      · by_cases e:x.1 = l
        · exact .inl (.inr ⟨e,h3,by omega,by rw [← e]; exact h5⟩)
        · exact .inr ⟨by omega,by omega,h3,h4,h5⟩
theorem reD_stop {ps:List Int} {bs:List Ban} {g:List (Int × Int)} {losses d:Nat} (h:RgOk ps bs) (hst:∀ (l:Nat) (s:List Int),l ≤ losses → VS ps s → reD ps bs g (d + 1) l s = reD ps bs g d l s) :
    ∀ (k l:Nat) (s:List Int),l ≤ losses → VS ps s → reD ps bs g (d + k) l s = reD ps bs g d l s
  | 0,l,s,_,_ => rfl
  | k + 1,l,s,hl,hs => by
    have ih:=reD_stop h hst k
    rw [show d + (k + 1) = (d + k) + 1 by omega,reD,ih l s hl hs]
    have h1:=hst l s hl hs
    rw [reD] at h1
    have e:((allM s.length).any fun m => okM ps bs s m && (nexts s m l).all fun y => reD ps bs g (d + k) y.2 y.1) = ((allM s.length).any fun m => okM ps bs s m && (nexts s m l).all fun y => reD ps bs g d y.2 y.1):=by
      refine any_congr fun m hm => ?_
      cases ho:okM ps bs s m with
      | false => rfl
      | true =>
        rw [Bool.true_and,Bool.true_and]
        refine all_congr fun y hy => ?_
        have sl:=hs.sl
        have hml:=allM_len hm
        unfold okM at ho
        rw [Bool.and_eq_true] at ho
        obtain ⟨v1,v2⟩:=nexts_vs h.pb hs.sl (by omega) hs.si (allM_is hm) (waysS_ok ho.1) hy
        exact ih y.2 y.1 (by omega) v1
    rw [e]
    exact h1
theorem layR_inv {ps:List Int} {bs:List Ban} {g:List (Int × Int)} {losses:Nat} (h:RgOk ps bs) (hlo:losses ≤ 2):∀ (k d:Nat) (tk:List Int),d + 1 + k = 65 → InvT ps bs g losses tk (d + 1) →
    InvT ps bs g losses (layR ps bs (cntSf ps bs g) (manyW ps 1) (losses:Int) k ((d + 1:Nat):Int) tk) 65
  | 0,d,tk,hk,hI => by
    rw [layR]
    rw [show d + 1 = 65 by omega] at hI
    exact hI
  | k + 1,d,tk,hk,hI => by
    have hp:=h.pr
    have hmw:=h.many
    rw [layR]
    have hmem:=fun x => freshL_mem (ps:=ps) (bs:=bs) (sf:=cntSf ps bs g) (tk:=tk) (many:=manyW ps 1) (layer:=((d + 1:Nat):Int)) ((losses:Int) + 1).toNat 0 [] x
    generalize freshL ps bs (cntSf ps bs g) tk (manyW ps 1) ((d + 1:Nat):Int) ((losses:Int) + 1).toNat 0 [] = f at *
    have hin:∀ (l:Nat) (s:List Int),l ≤ losses → VS ps s → (((l:Int),numW ps s 0) ∈ f ↔ (!reD ps bs g d l s && reD ps bs g (d + 1) l s) = true):=fun l s hl hs => by
      obtain ⟨n1,n2,n3⟩:=h.num hs
      rw [hmem,← good_eq h hI hlo hl hs]
      constructor
      · rintro (h | h)
        · cases h
        · exact h.2.2.2.2
      · intro hg
        exact .inr ⟨by show 0 ≤ (l:Int); omega,by show (l:Int) < _; omega,n2,by show numW ps s 0 < _; omega,hg⟩
    split
    · rename_i hf
      have hst:∀ (l:Nat) (s:List Int),l ≤ losses → VS ps s → reD ps bs g (d + 1) l s = reD ps bs g d l s:=fun l s hl hs => by
        have h1:¬ ((!reD ps bs g d l s && reD ps bs g (d + 1) l s) = true):=fun c => by
          have:=(hin l s hl hs).2 c
          rw [hf] at this
          cases this
        cases a:reD ps bs g d l s with
        | true => exact reD_mono d a
        | false =>
          rw [a] at h1
          cases b:reD ps bs g (d + 1) l s with
          | true => rw [b] at h1; exact absurd rfl h1
          | false => rfl
      refine ⟨hI.1,fun l s hl hs => ?_⟩
      rw [hI.2 l s hl hs]
      refine (lst_same (fun e he hp => ?_) 65 (by omega)).symm
      have:=reD_stop h hst (e - d) l s hl hs
      rw [show d + (e - d) = e by omega] at this
      rw [this] at hp
      have hmn:=lst_mono (p:=fun d => reD ps bs g d l s) (fun d h => reD_mono d h) (n:=d)
      rw [hp] at hmn
      exact of_decide_eq_true hmn
    · have hI' : InvT ps bs g losses (putL ((d + 1:Nat):Int) f tk) (d + 1 + 1):=by
        refine ⟨by rw [putL_len]; exact hI.1,fun l s hl hs => ?_⟩
        obtain ⟨n1,n2,n3⟩:=h.num hs
        have hg:=putL_get (layer:=((d + 1:Nat):Int)) (l:=(l:Int)) (n:=numW ps s 0) (by omega) (by omega) f tk (fun x hx => by
          rcases (hmem x).1 hx with h | h
          · cases h
          · omega) hI.1
        rw [Int.toNat_natCast] at hg
        have e:=hI.2 l s hl hs
        unfold tkL at e ⊢
        have el:lst (fun d => reD ps bs g d l s) (d + 1 + 1) = if 0 ≤ lst (fun d => reD ps bs g d l s) (d + 1) then lst (fun d => reD ps bs g d l s) (d + 1) else if reD ps bs g (d + 1) l s = true then ((d + 1:Nat):Int) else -1:=rfl
        rw [hg,e,el]
        have hmn:=lst_mono (p:=fun d => reD ps bs g d l s) (fun d h => reD_mono d h) (n:=d)
        have hlt:=lst_lt (fun d => reD ps bs g d l s) (d + 1)
        have hii:=hin l s hl hs
        by_cases c:((l:Int),numW ps s 0) ∈ f
        · rw [if_pos c]
          have:=hii.1 c
          rw [Bool.and_eq_true,Bool.not_eq_true'] at this
          rw [this.1] at hmn
          rw [if_neg (of_decide_eq_false hmn),if_pos this.2]
        · rw [if_neg c]
          by_cases z:0 ≤ lst (fun d => reD ps bs g d l s) (d + 1)
          · rw [if_pos z]
          · rw [if_neg z]
            rw [decide_eq_false z] at hmn
            have:¬ (reD ps bs g (d + 1) l s = true):=fun b => c (hii.2 (by rw [← hmn,b]; rfl))
            rw [if_neg this]
            omega
      have:=layR_inv h hlo k (d + 1) _ (by omega) hI'
      rw [show (((d + 1 + 1:Nat):Int)) = ((d + 1:Nat):Int) + 1 by omega] at this
      exact this
theorem cntTk_inv {ps:List Int} {bs:List Ban} (h:RgOk ps bs) (g:List (Int × Int)) {losses:Nat} (hlo:losses ≤ 2):InvT ps bs g losses (cntTk ps bs g (losses:Int)) 65:=by
  unfold cntTk
  refine layR_inv h hlo 64 0 _ rfl ⟨?_,fun l s hl hs => ?_⟩
  · unfold init0
    rw [(initR_len ps bs g _ 0 _).1,List.length_replicate]
  · exact (init0_get h g (by omega) hs).1
end
end Go.MR
