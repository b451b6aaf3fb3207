/- Cuts: what the program's and the reference's searches come to: the same list. -/
import Derived.Test.YtfhomgggbhjglaaGreatMdA
namespace Go.MB
open Go Go.Sx Go.Proofs
set_option linter.unusedVariables false
set_option linter.unusedSimpArgs false
noncomputable section
def finS (x:Int):Fin 1024:=⟨x.toNat % 1024,Nat.mod_lt _ (by decide)⟩
def cmpF (x y:Fin 1024):Int:=cmpL (lsI x.val) (lsI y.val)
def ltF (x y:Fin 1024):Bool:=decide (cmpF x y < 0)
def sortF (l:List (Fin 1024)):List (Fin 1024):=l.mergeSort fun x y => !ltF y x
def sortS (l:List Int):List Int:=(sortF (l.map finS)).map fun x => (x.val:Int)
theorem ltF_irr (x:Fin 1024):ltF x x = false:=by unfold ltF cmpF; rw [cmpL_self]; rfl
theorem ltF_trans {x y z:Fin 1024} (h:ltF x y = true) (k:ltF y z = true):ltF x z = true:=by
  unfold ltF cmpF at *
  simp only [decide_eq_true_eq] at *
  exact (cmpL_trans (by omega) (by omega)).2 (.inl h)
theorem ltF_ntrans {x y z:Fin 1024} (h:ltF x y = false) (k:ltF y z = false):ltF x z = false:=by
  unfold ltF cmpF at *
  simp only [decide_eq_false_iff_not] at *
  have a1:=cmpL_neg (lsI x.val) (lsI y.val)
  have a2:=cmpL_neg (lsI y.val) (lsI z.val)
  have a3:=cmpL_neg (lsI x.val) (lsI z.val)
  have:=(cmpL_trans (a:=lsI z.val) (b:=lsI y.val) (c:=lsI x.val) (by omega) (by omega)).1
  omega
theorem ltF_tot {x y:Fin 1024} (h:ltF x y = false) (k:ltF y x = false):x = y:=by
  unfold ltF cmpF at *
  simp only [decide_eq_false_iff_not] at *
  have a1:=cmpL_neg (lsI x.val) (lsI y.val)
  exact Fin.ext (lsI_inj x.isLt y.isLt (cmpL_eq (by omega)))
theorem sortF_perm (l:List (Fin 1024)):(sortF l).Perm l:=List.mergeSort_perm l _
theorem sortF_pw (l:List (Fin 1024)):(sortF l).Pairwise fun x y => ltF y x = false:=by
  have h:=List.pairwise_mergeSort (le:=fun x y => !ltF y x) (fun a b c h k => by
    simp only [Bool.not_eq_true'] at *
    exact ltF_ntrans k h) (fun a b => by
    simp only [Bool.or_eq_true,Bool.not_eq_true']
    cases c:ltF b a with
    | false => exact .inl rfl
    | true =>
      refine .inr ?_
      cases d:ltF a b with
      | false => rfl
      | true => have:=ltF_trans c d; rw [ltF_irr] at this; cases this) l
  exact h.imp fun hh => by simpa using hh
theorem finS_val {x:Int} (h0:0 ≤ x) (h1:x < 1024):((finS x).val:Int) = x:=by unfold finS; dsimp only; omega
theorem sortS_mem {l:List Int} (h:∀ x ∈ l,0 ≤ x ∧ x < 1024) {x:Int}:x ∈ sortS l ↔ x ∈ l:=by
  unfold sortS
  rw [List.mem_map]
  constructor
  · rintro ⟨y,hy,rfl⟩
    have:=(sortF_perm _).mem_iff.1 hy
    obtain ⟨z,hz,rfl⟩:=List.mem_map.1 this
    rw [finS_val (h z hz).1 (h z hz).2]; exact hz
  · intro hx
    exact ⟨finS x,(sortF_perm _).mem_iff.2 (List.mem_map_of_mem hx),finS_val (h x hx).1 (h x hx).2⟩
theorem sortS_len (l:List Int):(sortS l).length = l.length:=by
  unfold sortS
  rw [List.length_map,(sortF_perm _).length_eq,List.length_map]
theorem sortS_pw {l:List Int} (h:∀ x ∈ l,0 ≤ x ∧ x < 1024) (hn:l.Nodup):(sortS l).Pairwise fun x y => cmpL (lsI x.toNat) (lsI y.toNat) < 0:=by
  unfold sortS
  rw [List.pairwise_map]
  have hnd:(sortF (l.map finS)).Nodup:=by
    rw [(sortF_perm _).nodup_iff]
    unfold List.Nodup
    rw [List.pairwise_map]
    refine List.Pairwise.imp_of_mem ?_ hn
    intro a b ha hb hne e
    have h1:=finS_val (h a ha).1 (h a ha).2
    have h2:=finS_val (h b hb).1 (h b hb).2
    rw [e] at h1
    omega
  refine ((sortF_pw _).and hnd).imp fun {a b} hh => ?_
  obtain ⟨h1,h2⟩:=hh
  rw [Int.toNat_natCast,Int.toNat_natCast]
  cases c:ltF a b with
  | true => unfold ltF cmpF at c; simpa using c
  | false => exact absurd (ltF_tot c h1) h2
def tkS (Wk:Nat) (hd:Nat → Bool) (size:Int) (cuts:List Int) (n:Int):Bool :=
  decide ((cnt n.toNat:Int) = size) && (decide (wo n.toNat Wk = 0) && (!hd (wo Wk n.toNat) && !(cuts.any fun c => decide (c.toNat &&& n.toNat = c.toNat))))
def smS (Wk:Nat) (hd:Nat → Bool) (size:Int) (cuts:List Int):Nat → Int → List Int
  | 0,_ => []
  | m + 1,n => if tkS Wk hd size cuts n = true then n :: smS Wk hd size cuts m (n + 1) else smS Wk hd size cuts m (n + 1)
def szS (N:Nat) (Wk:Nat) (hd:Nat → Bool):Nat → Int → List Int → List Int
  | 0,_,cuts => cuts
  | m + 1,size,cuts => szS N Wk hd m (size + 1) (cuts ++ sortS (smS Wk hd size cuts N 0))
def ctS (N:Nat) (Wk:Nat) (hd:Nat → Bool):List (List Int):=(szS N Wk hd 10 1 []).map fun c => lsI c.toNat
theorem smS_mem {Wk:Nat} {hd:Nat → Bool} {size:Int} {cuts:List Int}:∀ {m:Nat} {n x:Int},x ∈ smS Wk hd size cuts m n ↔ n ≤ x ∧ x < n + m ∧ tkS Wk hd size cuts x = true
  | 0,n,x => by
    rw [smS]
    exact ⟨fun h => (by cases h),fun h => by have:=h.1; have:=h.2.1; omega⟩
  | m + 1,n,x => by
    rw [smS]
    have ih:=@smS_mem Wk hd size cuts m (n + 1) x
    by_cases c:tkS Wk hd size cuts n = true
    · rw [if_pos c,List.mem_cons,ih]
      constructor
      · rintro (rfl | ⟨h1,h2,h3⟩)
        · exact ⟨by omega,by omega,c⟩
        · exact ⟨by omega,by omega,h3⟩
      · rintro ⟨h1,h2,h3⟩
        by_cases e:x = n
        · exact .inl e
        · exact .inr ⟨by omega,by omega,h3⟩
    · rw [if_neg c,ih]
      constructor
      · rintro ⟨h1,h2,h3⟩
        exact ⟨by omega,by omega,h3⟩
      · rintro ⟨h1,h2,h3⟩
        by_cases e:x = n
        · subst e; exact absurd h3 c
        · exact ⟨by omega,by omega,h3⟩
theorem smS_nodup {Wk:Nat} {hd:Nat → Bool} {size:Int} {cuts:List Int}:∀ {m:Nat} {n:Int},(smS Wk hd size cuts m n).Nodup
  | 0,n => List.nodup_nil
  | m + 1,n => by
    rw [smS]
    split
    · refine List.nodup_cons.2 ⟨fun h => ?_,smS_nodup⟩
      have:=(smS_mem.1 h).1
      omega
    · exact smS_nodup
theorem smS_len {Wk:Nat} {hd:Nat → Bool} {size:Int} {cuts:List Int}:∀ {m:Nat} {n:Int},(smS Wk hd size cuts m n).length ≤ m
  | 0,n => Nat.le_refl _
  | m + 1,n => by
    rw [smS]
    have:=@smS_len Wk hd size cuts m (n + 1)
    split
    · rw [List.length_cons]; omega
    · omega
structure UpTo (Wk:Nat) (hd:Nat → Bool) (k:Int) (cuts:List Int):Prop where
  rng:∀ c ∈ cuts,0 ≤ c ∧ c < 1024
  mem:∀ s:Nat,(s:Int) ∈ cuts ↔ MinC Wk hd s ∧ (cnt s:Int) < k
  pw:cuts.Pairwise fun x y => bfo (lsI x.toNat) (lsI y.toNat)
theorem tkS_iff {Wk:Nat} {hd:Nat → Bool} {k:Int} {cuts:List Int} (hW:Wk < 2 ^ 10) (hM:Mono hd) (u:UpTo Wk hd k cuts) {s:Nat} (hs:s < 2 ^ 10) :
    tkS Wk hd k cuts (s:Int) = true ↔ MinC Wk hd s ∧ (cnt s:Int) = k:=by
  unfold tkS
  rw [Int.toNat_natCast]
  simp only [Bool.and_eq_true,decide_eq_true_eq,Bool.not_eq_true',List.any_eq_false,wo_zero (show s < 2 ^ 64 by omega) (show Wk < 2 ^ 64 by omega)]
  constructor
  · rintro ⟨h1,h2,h3,h4⟩
    refine ⟨⟨h3,h2,fun t ht hne => ?_⟩,h1⟩
    cases c:hd (wo Wk t) with
    | true => rfl
    | false =>
      obtain ⟨x,hx,hxt⟩:=min_ex hW (cnt t) (Nat.le_refl _) (ht.trans h2) c
      have l1:=cnt_lt hs ht hne
      have l2:cnt x ≤ cnt t:=by
        by_cases e:x = t
        · rw [e]; exact Nat.le_refl _
        · exact Nat.le_of_lt (cnt_lt (ht.lt hs) hxt e)
      refine absurd ?_ (h4 (x:Int) ((u.mem x).2 ⟨hx,by omega⟩))
      rw [Int.toNat_natCast]
      exact and_self_of.2 (hxt.trans ht)
  · rintro ⟨h,h1⟩
    refine ⟨h1,h.sub,h.cut,fun c hc => ?_⟩
    obtain ⟨r1,r2⟩:=u.rng c hc
    obtain ⟨x,rfl⟩:=Int.eq_ofNat_of_zero_le r1
    rw [Int.toNat_natCast]
    intro hcs
    have hcs:Sb x s:=and_self_of.1 hcs
    obtain ⟨m1,m2⟩:=(u.mem x).1 hc
    by_cases e:x = s
    · subst e; omega
    · have:=h.min x hcs e
      rw [m1.cut] at this
      cases this
theorem upTo_step {Wk:Nat} {hd:Nat → Bool} {k:Int} {cuts:List Int} {n:Nat} (hn:n ≤ 10) (hW:Wk < 2 ^ n) (hM:Mono hd) (u:UpTo Wk hd k cuts) :
    UpTo Wk hd (k + 1) (cuts ++ sortS (smS Wk hd k cuts (2 ^ n) 0)):=by
  have hN:2 ^ n ≤ 2 ^ 10:=Nat.pow_le_pow_right (by decide) hn
  have hW' : Wk < 2 ^ 10:=by omega
  have hr:∀ x ∈ smS Wk hd k cuts (2 ^ n) 0,0 ≤ x ∧ x < 1024:=fun x hx => by
    have:=smS_mem.1 hx
    omega
  have hm:∀ s:Nat,(s:Int) ∈ smS Wk hd k cuts (2 ^ n) 0 ↔ MinC Wk hd s ∧ (cnt s:Int) = k:=fun s => by
    rw [smS_mem]
    constructor
    · rintro ⟨h1,h2,h3⟩
      exact (tkS_iff hW' hM u (by omega)).1 h3
    · rintro ⟨h1,h2⟩
      have:=h1.lt hW
      exact ⟨by omega,by omega,(tkS_iff hW' hM u (by omega)).2 ⟨h1,h2⟩⟩
  refine ⟨fun c hc => ?_,fun s => ?_,?_⟩
  · rcases List.mem_append.1 hc with h | h
    · exact u.rng c h
    · exact hr c ((sortS_mem hr).1 h)
  · rw [List.mem_append,u.mem,sortS_mem hr,hm]
    constructor
    · rintro (⟨h1,h2⟩ | ⟨h1,h2⟩)
      · exact ⟨h1,by omega⟩
      · exact ⟨h1,by omega⟩
    · rintro ⟨h1,h2⟩
      by_cases e:(cnt s:Int) < k
      · exact .inl ⟨h1,e⟩
      · exact .inr ⟨h1,by omega⟩
  · rw [List.pairwise_append]
    refine ⟨u.pw,?_,fun a ha b hb => ?_⟩
    · refine List.Pairwise.imp_of_mem ?_ (sortS_pw hr smS_nodup)
      intro a b ha hb h
      have ha:=(sortS_mem hr).1 ha
      have hb:=(sortS_mem hr).1 hb
      obtain ⟨a1,a2⟩:=hr a ha
      obtain ⟨b1,b2⟩:=hr b hb
      obtain ⟨x,rfl⟩:=Int.eq_ofNat_of_zero_le a1
      obtain ⟨y,rfl⟩:=Int.eq_ofNat_of_zero_le b1
      have:=(hm x).1 ha
      have:=(hm y).1 hb
      rw [Int.toNat_natCast,Int.toNat_natCast] at *
      exact .inr ⟨by rw [lsI_len,lsI_len]; omega,h⟩
    · have hb:=(sortS_mem hr).1 hb
      obtain ⟨a1,a2⟩:=u.rng a ha
      obtain ⟨b1,b2⟩:=hr b hb
      obtain ⟨x,rfl⟩:=Int.eq_ofNat_of_zero_le a1
      obtain ⟨y,rfl⟩:=Int.eq_ofNat_of_zero_le b1
      have:=(u.mem x).1 ha
      have:=(hm y).1 hb
      rw [Int.toNat_natCast,Int.toNat_natCast] at *
      exact .inl (by rw [lsI_len,lsI_len]; omega)
theorem szS_ok {Wk:Nat} {hd:Nat → Bool} {n:Nat} (hn:n ≤ 10) (hW:Wk < 2 ^ n) (hM:Mono hd):∀ {m:Nat} {k:Int} {cuts:List Int},UpTo Wk hd k cuts → UpTo Wk hd (k + m) (szS (2 ^ n) Wk hd m k cuts)
  | 0,k,cuts,u => by rw [szS]; simpa using u
  | m + 1,k,cuts,u => by
    rw [szS,show k + ((m + 1:Nat):Int) = k + 1 + m by omega]
    exact szS_ok hn hW hM (upTo_step hn hW hM u)
theorem szS_len {N Wk:Nat} {hd:Nat → Bool}:∀ {m:Nat} {k:Int} {cuts:List Int},(szS N Wk hd m k cuts).length ≤ cuts.length + m * N
  | 0,k,cuts => by rw [szS]; omega
  | m + 1,k,cuts => by
    rw [szS]
    have h1:=@szS_len N Wk hd m (k + 1) (cuts ++ sortS (smS Wk hd k cuts N 0))
    have h2:=@smS_len Wk hd k cuts N 0
    rw [List.length_append,sortS_len] at h1
    rw [Nat.add_mul]
    omega
structure CutsOk (Wk:Nat) (hd:Nat → Bool) (l:List (List Int)):Prop where
  mem:∀ x,x ∈ l ↔ ∃ s,MinC Wk hd s ∧ x = lsI s
  pw:l.Pairwise bfo
theorem CutsOk.uniq {Wk:Nat} {hd:Nat → Bool} {l m:List (List Int)} (h:CutsOk Wk hd l) (k:CutsOk Wk hd m):l = m :=
  ord_uniq bfo_irr bfo_trans h.pw k.pw fun x => by rw [h.mem,k.mem]
theorem MinC.pos {Wk:Nat} {hd:Nat → Bool} {s:Nat} (hW:Wk < 2 ^ 10) (h0:hd Wk = true) (h:MinC Wk hd s):0 < cnt s:=by
  apply Nat.pos_of_ne_zero
  intro e
  have e:=cnt_zero (h.lt hW) e
  have hc:=h.cut
  rw [e,show wo Wk 0 = Wk from Nat.eq_of_testBit_eq fun j => by rw [wo_bit (by omega) (by decide)]; simp] at hc
  rw [hc] at h0
  cases h0
theorem ctS_ok {Wk:Nat} {hd:Nat → Bool} {n:Nat} (hn:n ≤ 10) (hW:Wk < 2 ^ n) (hM:Mono hd) (h0:hd Wk = true):CutsOk Wk hd (ctS (2 ^ n) Wk hd):=by
  have hW' : Wk < 2 ^ 10:=Nat.lt_of_lt_of_le hW (Nat.pow_le_pow_right (by decide) hn)
  have u0:UpTo Wk hd 1 []:=⟨fun c hc => (by cases hc),fun s => ⟨fun h => (by cases h),fun h => by have:=h.1.pos hW' h0; omega⟩,List.Pairwise.nil⟩
  have u:=szS_ok hn hW hM (m:=10) u0
  refine ⟨fun x => ?_,?_⟩
  · unfold ctS
    rw [List.mem_map]
    constructor
    · rintro ⟨c,hc,rfl⟩
      obtain ⟨r1,r2⟩:=u.rng c hc
      obtain ⟨s,rfl⟩:=Int.eq_ofNat_of_zero_le r1
      exact ⟨s,((u.mem s).1 hc).1,by rw [Int.toNat_natCast]⟩
    · rintro ⟨s,hs,rfl⟩
      have:=cnt_le10 s
      exact ⟨(s:Int),(u.mem s).2 ⟨hs,by omega⟩,by rw [Int.toNat_natCast]⟩
  · unfold ctS
    rw [List.pairwise_map]
    exact u.pw
def ltL:List Int → List Int → Bool
  | x :: a,y :: b => if x ≠ y then decide (x < y) else ltL a b
  | _,_ => false
def bfoB (a b:List Int):Bool:=if a.length ≠ b.length then decide (a.length < b.length) else ltL a b
theorem ltL_cmp:∀ {a b:List Int},a.length = b.length → (ltL a b = true ↔ cmpL a b < 0)
  | [],[],_ => ⟨fun h => (by cases h),fun h => absurd h (by decide)⟩
  | [],_ :: _,h => by simp at h
  | _ :: _,[],h => by simp at h
  | x :: a,y :: b,h => by
    have ih:=@ltL_cmp a b (by simpa using h)
    rw [ltL,cmpL]
    by_cases e:x = y
    · rw [if_neg (by simpa using e),if_neg (by omega),if_neg (by omega)]
      exact ih
    · rw [if_pos e,decide_eq_true_eq]
      by_cases c:x < y
      · rw [if_pos c]; exact ⟨fun _ => by decide,fun _ => c⟩
      · rw [if_neg c,if_pos (by omega)]
        exact ⟨fun h => absurd h c,fun h => absurd h (by decide)⟩
theorem bfoB_iff {a b:List Int}:bfoB a b = true ↔ bfo a b:=by
  unfold bfoB bfo
  by_cases e:a.length = b.length
  · rw [if_neg (by simpa using e),ltL_cmp e]
    refine ⟨fun h => .inr ⟨e,h⟩,fun h => ?_⟩
    rcases h with h | h
    · omega
    · exact h.2
  · rw [if_pos e,decide_eq_true_eq]
    refine ⟨fun h => .inl h,fun h => ?_⟩
    rcases h with h | h
    · exact h
    · exact absurd h.1 e
def atB (x:List Int) (out:List (List Int)):Nat → Nat
  | 0 => 0
  | a + 1 => if bfoB x (out.getD a []) = true then atB x out a else a + 1
def insBf (x:List Int) (out:List (List Int)):List (List Int):=out.take (atB x out out.length) ++ [x] ++ out.drop (atB x out out.length)
theorem atB_ok (x:List Int) (out:List (List Int)):∀ a,atB x out a ≤ a ∧ (∀ j,atB x out a ≤ j → j < a → bfo x (out.getD j [])) ∧ (∀ b,atB x out a = b + 1 → ¬ bfo x (out.getD b []))
  | 0 => ⟨Nat.le_refl _,fun j h1 h2 => by omega,fun b hb => by rw [atB] at hb; cases hb⟩
  | a + 1 => by
    obtain ⟨h1,h2,h3⟩:=atB_ok x out a
    rw [atB]
    by_cases c:bfoB x (out.getD a []) = true
    · rw [if_pos c]
      refine ⟨by omega,fun j k1 k2 => ?_,h3⟩
      by_cases e:j = a
      · subst e; exact bfoB_iff.1 c
      · exact h2 j k1 (by omega)
    · rw [if_neg c]
      refine ⟨Nat.le_refl _,fun j k1 k2 => by omega,fun b hb => ?_⟩
      cases hb
      exact fun h => c (bfoB_iff.2 h)
theorem getD_at {out:List (List Int)} {j:Nat} (h:j < out.length):out.getD j [] = out[j]:=by
  rw [List.getD_eq_getElem?_getD,List.getElem?_eq_getElem h,Option.getD_some]
theorem insBf_mem (x:List Int) (out:List (List Int)) (y:List Int):y ∈ insBf x out ↔ y = x ∨ y ∈ out:=by
  unfold insBf
  rw [List.append_assoc,List.mem_append,List.mem_append,List.mem_singleton]
  have e:y ∈ out ↔ y ∈ out.take (atB x out out.length) ∨ y ∈ out.drop (atB x out out.length):=by
    rw [← List.mem_append,List.take_append_drop]
  rw [e]
  constructor
  · rintro (h | h | h)
    · exact .inr (.inl h)
    · exact .inl h
    · exact .inr (.inr h)
  · rintro (h | h | h)
    · exact .inr (.inl h)
    · exact .inl h
    · exact .inr (.inr h)
theorem insBf_pw {x:List Int} {out:List (List Int)} (h:out.Pairwise bfo) (hx:x ∉ out):(insBf x out).Pairwise bfo:=by
  obtain ⟨h1,h2,h3⟩:=atB_ok x out out.length
  unfold insBf
  generalize atB x out out.length = k at *
  have hlt:∀ a ∈ out.take k,bfo a x:=fun a ha => by
    obtain ⟨j,hj,rfl⟩:=List.mem_iff_getElem.1 ha
    rw [List.length_take] at hj
    rw [List.getElem_take]
    have hjk:j < k:=by omega
    have hb:bfo (out[k - 1]'(by omega)) x:=by
      have:=h3 (k - 1) (by omega)
      rw [getD_at (by omega)] at this
      rcases bfo_tot (a:=x) (b:=out[k - 1]'(by omega)) (fun e => hx (e ▸ List.getElem_mem _)) with q | q
      · exact absurd q this
      · exact q
    by_cases e:j = k - 1
    · subst e; exact hb
    · exact bfo_trans (List.pairwise_iff_getElem.1 h j (k - 1) (by omega) (by omega) (by omega)) hb
  have hgt:∀ a ∈ out.drop k,bfo x a:=fun a ha => by
    obtain ⟨j,hj,rfl⟩:=List.mem_iff_getElem.1 ha
    rw [List.length_drop] at hj
    rw [List.getElem_drop]
    have:=h2 (k + j) (by omega) (by omega)
    rwa [getD_at (by omega)] at this
  rw [List.append_assoc,List.pairwise_append]
  refine ⟨h.sublist (List.take_sublist ..),?_,fun a ha b hb => ?_⟩
  · rw [List.singleton_append,List.pairwise_cons]
    exact ⟨hgt,h.sublist (List.drop_sublist ..)⟩
  · rw [List.singleton_append,List.mem_cons] at hb
    rcases hb with rfl | hb
    · exact hlt a ha
    · exact bfo_trans (hlt a ha) (hgt b hb)
def woF:List Bool → Nat → Nat → List Bool
  | [],_,_ => []
  | b :: r,i,s => (b && !s.testBit i) :: woF r (i + 1) s
theorem woF_len:∀ (f:List Bool) (i s:Nat),(woF f i s).length = f.length
  | [],_,_ => rfl
  | b :: r,i,s => by rw [woF,List.length_cons,List.length_cons,woF_len r]
theorem woF_at:∀ (f:List Bool) (i s j:Nat),(woF f i s).getD j false = (f.getD j false && !s.testBit (i + j))
  | [],_,_,j => by simp [woF]
  | b :: r,i,s,0 => rfl
  | b :: r,i,s,j + 1 => by
    rw [woF,List.getD_cons_succ,List.getD_cons_succ,woF_at r,show i + 1 + j = i + (j + 1) by omega]
def fl (n s:Nat):List Bool:=(List.range n).map fun j => s.testBit j
theorem fl_len (n s:Nat):(fl n s).length = n:=by unfold fl; rw [List.length_map,List.length_range]
theorem fl_at {n s:Nat} (hs:s < 2 ^ n) (j:Nat):(fl n s).getD j false = s.testBit j:=by
  unfold fl
  rw [List.getD_eq_getElem?_getD,List.getElem?_map]
  by_cases h:j < n
  · rw [List.getElem?_range h]; rfl
  · rw [List.getElem?_eq_none (by rw [List.length_range]; omega),Nat.testBit_lt_two_pow (Nat.lt_of_lt_of_le hs (Nat.pow_le_pow_right (by decide) (by omega)))]
    rfl
theorem ext_getD {f g:List Bool} (hl:f.length = g.length) (h:∀ j,f.getD j false = g.getD j false):f = g:=by
  refine List.ext_getElem hl fun j h1 h2 => ?_
  have:=h j
  rw [List.getD_eq_getElem?_getD,List.getD_eq_getElem?_getD,List.getElem?_eq_getElem h1,List.getElem?_eq_getElem h2] at this
  exact this
def hdN (h:Hs) (s:Nat):Bool:=(proofF h (fl h.1.length s)).isSome
theorem hdN_mono {h:Hs} (hn:0 ≤ h.2.2) (n:Nat):∀ a b:Nat,a < 2 ^ h.1.length → b < 2 ^ h.1.length → Sb a b → hdN h a = true → hdN h b = true:=fun a b ha hb hs hh =>
  proofF_mono hn (fun i hi => by rw [fl_at ha] at hi; rw [fl_at hb]; exact hs i hi) hh
def hdM (h:Hs) (s:Nat):Bool:=hdN h (s % 2 ^ h.1.length)
theorem hdM_eq {h:Hs} {s:Nat} (hs:s < 2 ^ h.1.length):hdM h s = hdN h s:=by unfold hdM; rw [Nat.mod_eq_of_lt hs]
theorem hdM_mono {h:Hs} (hn:0 ≤ h.2.2):Mono (hdM h):=fun a b hs hh => by
  refine hdN_mono hn 0 _ _ (Nat.mod_lt _ (Nat.pow_pos (by decide))) (Nat.mod_lt _ (Nat.pow_pos (by decide))) (fun j hj => ?_) hh
  rw [Nat.testBit_mod_two_pow] at *
  simp only [Bool.and_eq_true,decide_eq_true_eq] at *
  exact ⟨hj.1,hs j hj.2⟩
theorem fl_wo {f:List Bool} {Wk s n:Nat} (hn:n ≤ 10) (hf:f.length = n) (hW:Wk < 2 ^ n) (hs:s < 2 ^ n) (hr:∀ j,Wk.testBit j = f.getD j false):woF f 0 s = fl n (wo Wk s):=by
  have hN:2 ^ n ≤ 2 ^ 10:=Nat.pow_le_pow_right (by decide) hn
  refine ext_getD (by rw [woF_len,fl_len,hf]) fun j => ?_
  rw [woF_at,fl_at (wo_lt (by omega) hW (by omega)),wo_bit (by omega) (by omega),hr,Nat.zero_add]
def rcA (h:Hs) (f:List Bool) (s:Nat):Nat → Nat → Bool
  | 0,_ => true
  | m + 1,i => if s.testBit i = false then rcA h f s m (i + 1) else if (!f.getD i false || !(proofF h (woF f 0 (s - 1 <<< i))).isSome) = true then false else rcA h f s m (i + 1)
def rcB (h:Hs) (f:List Bool) (s:Nat):Bool:=!(proofF h (woF f 0 s)).isSome && rcA h f s f.length 0
def rcS (h:Hs) (f:List Bool):Nat → Nat → List (List Int) → List (List Int)
  | 0,_,out => out
  | m + 1,s,out => rcS h f m (s + 1) (if rcB h f s = true then insBf (lsI s) out else out)
theorem rcA_iff {h:Hs} {f:List Bool} {s:Nat}:∀ {m i:Nat},rcA h f s m i = true ↔ ∀ j,i ≤ j → j < i + m → s.testBit j = true → f.getD j false = true ∧ (proofF h (woF f 0 (s - 1 <<< j))).isSome = true
  | 0,i => by rw [rcA]; exact ⟨fun _ j h1 h2 => by omega,fun _ => rfl⟩
  | m + 1,i => by
    have ih:=@rcA_iff h f s m (i + 1)
    rw [rcA]
    by_cases c:s.testBit i = false
    · rw [if_pos c,ih]
      constructor
      · intro k j h1 h2 h3
        by_cases e:j = i
        · subst e; rw [c] at h3; cases h3
        · exact k j (by omega) (by omega) h3
      · exact fun k j h1 h2 h3 => k j (by omega) (by omega) h3
    · have c' : s.testBit i = true:=by simpa using c
      rw [if_neg c]
      by_cases d:(!f.getD i false || !(proofF h (woF f 0 (s - 1 <<< i))).isSome) = true
      · rw [if_pos d]
        refine ⟨fun h => (by cases h),fun k => ?_⟩
        obtain ⟨k1,k2⟩:=k i (Nat.le_refl _) (by omega) c'
        rw [k1,k2] at d
        cases d
      · rw [if_neg d,ih]
        have d' : f.getD i false = true ∧ (proofF h (woF f 0 (s - 1 <<< i))).isSome = true:=by
          simp only [Bool.or_eq_true,Bool.not_eq_true',not_or,Bool.not_eq_false] at d
          exact d
        constructor
        · intro k j h1 h2 h3
          by_cases e:j = i
          · subst e; exact d'
          · exact k j (by omega) (by omega) h3
        · exact fun k j h1 h2 h3 => k j (by omega) (by omega) h3
theorem sub_er_all:((List.range 10).all fun i => (List.range 1024).all fun s => !s.testBit i || s - 1 <<< i == er s i) = true:=by kernel_rfl
theorem sub_er {s i:Nat} (hs:s < 2 ^ 10) (h:s.testBit i = true):s - 1 <<< i = er s i:=by
  have h1:=List.all_eq_true.1 sub_er_all i (List.mem_range.2 (lt_bit hs h))
  have h2:=List.all_eq_true.1 h1 s (List.mem_range.2 hs)
  rw [h] at h2
  simpa using h2
theorem rcB_iff {h:Hs} {f:List Bool} {s Wk:Nat} (hn:h.1.length ≤ 10) (h0:0 ≤ h.2.2) (hf:f.length = h.1.length) (hW:Wk < 2 ^ h.1.length) (hs:s < 2 ^ h.1.length) (hr:∀ j,Wk.testBit j = f.getD j false) :
    rcB h f s = true ↔ MinC Wk (hdM h) s:=by
  have hN:2 ^ h.1.length ≤ 2 ^ 10:=Nat.pow_le_pow_right (by decide) hn
  have hs' : s < 2 ^ 10:=by omega
  have key:∀ t,t < 2 ^ h.1.length → (proofF h (woF f 0 t)).isSome = hdM h (wo Wk t):=fun t ht => by
    rw [fl_wo hn hf hW ht hr,hdM_eq (wo_lt (by omega) hW (by omega))]
    rfl
  unfold rcB
  rw [Bool.and_eq_true,rcA_iff,key s hs,Bool.not_eq_true',minC_iff (by omega) hs' (hdM_mono h0),hf]
  constructor
  · rintro ⟨h1,h2⟩
    refine ⟨h1,fun i hi hb => ?_⟩
    have hi':=lt_bit hs hb
    obtain ⟨k1,k2⟩:=h2 i (Nat.zero_le _) (by omega) hb
    rw [sub_er hs' hb,key _ ((er_sub hs' hi).lt hs)] at k2
    exact ⟨by rw [hr]; exact k1,k2⟩
  · rintro ⟨h1,h2⟩
    refine ⟨h1,fun i _ hi hb => ?_⟩
    obtain ⟨k1,k2⟩:=h2 i (by omega) hb
    rw [sub_er hs' hb,key _ ((er_sub hs' (by omega)).lt hs)]
    exact ⟨by rw [← hr]; exact k1,k2⟩
theorem rcS_ok {h:Hs} {f:List Bool} {Wk:Nat} (hn:h.1.length ≤ 10) (h0:0 ≤ h.2.2) (hf:f.length = h.1.length) (hW:Wk < 2 ^ h.1.length) (hr:∀ j,Wk.testBit j = f.getD j false) :
    ∀ {m s:Nat} {out:List (List Int)},1 ≤ s → s + m = 2 ^ h.1.length → (∀ x,x ∈ out ↔ ∃ t,MinC Wk (hdM h) t ∧ 0 < t ∧ t < s ∧ x = lsI t) → out.Pairwise bfo →
      (∀ x,x ∈ rcS h f m s out ↔ ∃ t,MinC Wk (hdM h) t ∧ 0 < t ∧ x = lsI t) ∧ (rcS h f m s out).Pairwise bfo
  | 0,s,out,cs,hm,h1,h2 => by
    rw [rcS]
    refine ⟨fun x => ?_,h2⟩
    rw [h1]
    constructor
    · rintro ⟨t,k1,k2,k3,k4⟩; exact ⟨t,k1,k2,k4⟩
    · rintro ⟨t,k1,k2,k4⟩; exact ⟨t,k1,k2,by have:=k1.lt hW; omega,k4⟩
  | m + 1,s,out,cs,hm,h1,h2 => by
    have hN:2 ^ h.1.length ≤ 2 ^ 10:=Nat.pow_le_pow_right (by decide) hn
    rw [rcS]
    by_cases c:rcB h f s = true
    · have hm1:=(rcB_iff hn h0 hf hW (by omega) hr).1 c
      rw [if_pos c]
      refine rcS_ok hn h0 hf hW hr (by omega) (by omega) (fun x => ?_) (insBf_pw h2 fun hx => ?_)
      · rw [insBf_mem,h1]
        constructor
        · rintro (rfl | ⟨t,k1,k2,k3,k4⟩)
          · exact ⟨s,hm1,cs,by omega,rfl⟩
          · exact ⟨t,k1,k2,by omega,k4⟩
        · rintro ⟨t,k1,k2,k3,k4⟩
          by_cases e:t = s
          · subst e; exact .inl k4
          · exact .inr ⟨t,k1,k2,by omega,k4⟩
      · obtain ⟨t,k1,k2,k3,k4⟩:=(h1 _).1 hx
        have:=lsI_inj (by omega) (by omega) k4
        omega
    · rw [if_neg c]
      refine rcS_ok hn h0 hf hW hr (by omega) (by omega) (fun x => ?_) h2
      rw [h1]
      constructor
      · rintro ⟨t,k1,k2,k3,k4⟩; exact ⟨t,k1,k2,by omega,k4⟩
      · rintro ⟨t,k1,k2,k3,k4⟩
        refine ⟨t,k1,k2,?_,k4⟩
        by_cases e:t = s
        · subst e; exact absurd ((rcB_iff hn h0 hf hW (by omega) hr).2 k1) c
        · omega
def wkS (h:Hs) (tick press:Int):Nat:=worksN tick press h.1 0 0
theorem wkS_bit (h:Hs) (tick press:Int) (j:Nat):(wkS h tick press).testBit j = (soundF h tick press).getD j false:=by
  unfold wkS soundF
  rw [worksN_bit,Nat.zero_testBit,Bool.false_or,decide_eq_true (Nat.zero_le j),Bool.true_and,Nat.sub_zero]
theorem soundF_len (h:Hs) (tick press:Int):(soundF h tick press).length = h.1.length:=by unfold soundF; rw [List.length_map]
theorem wkS_lt (h:Hs) (tick press:Int):wkS h tick press < 2 ^ h.1.length:=lt_of_bits fun j hj => by
  rw [wkS_bit,List.getD_eq_getElem?_getD,List.getElem?_eq_none (by rw [soundF_len]; exact hj)]
  rfl
theorem fl_wk (h:Hs) (tick press:Int):fl h.1.length (wkS h tick press) = soundF h tick press :=
  ext_getD (by rw [fl_len,soundF_len]) fun j => by rw [fl_at (wkS_lt h tick press),wkS_bit]
theorem hdM_wk (h:Hs) (tick press:Int):hdM h (wkS h tick press) = holdsS h tick press:=by
  rw [hdM_eq (wkS_lt h tick press)]
  unfold hdN holdsS
  rw [fl_wk]
def cutsS (h:Hs) (tick press:Int):List (List Int) :=
  if houseE h ≠ 0 ∨ holdsS h tick press = false then [] else ctS (2 ^ h.1.length) (wkS h tick press) (hdM h)
def rcutsS (h:Hs) (tick press:Int):List (List Int) :=
  if houseE h ≠ 0 ∨ holdsS h tick press = false then [] else rcS h (soundF h tick press) (2 ^ h.1.length - 1) 1 []
theorem cuts_same (h:Hs) (tick press:Int):cutsS h tick press = rcutsS h tick press:=by
  unfold cutsS rcutsS
  by_cases c:houseE h ≠ 0 ∨ holdsS h tick press = false
  · rw [if_pos c,if_pos c]
  · rw [if_neg c,if_neg c]
    have c1:houseE h = 0:=by
      apply Classical.byContradiction
      intro q
      exact c (.inl q)
    have c2:holdsS h tick press = true:=by
      cases d:holdsS h tick press with
      | true => rfl
      | false => exact absurd (.inr d) c
    have k:=houseE_ok c1
    have hN:2 ^ h.1.length ≤ 2 ^ 10:=Nat.pow_le_pow_right (by decide) k.e10
    have hP:0 < 2 ^ h.1.length:=Nat.pow_pos (by decide)
    have hW:=wkS_lt h tick press
    have n0:0 ≤ h.2.2:=by have:=k.nd; omega
    refine (ctS_ok k.e10 hW (hdM_mono n0) (by rw [hdM_wk]; exact c2)).uniq ?_
    obtain ⟨r1,r2⟩:=rcS_ok k.e10 n0 (soundF_len h tick press) hW (wkS_bit h tick press) (m:=2 ^ h.1.length - 1) (s:=1) (out:=[]) (Nat.le_refl _) (by omega)
      (fun x => ⟨fun q => (by cases q),fun ⟨t,_,a,b,_⟩ => by omega⟩) List.Pairwise.nil
    refine ⟨fun x => ?_,r2⟩
    rw [r1]
    constructor
    · rintro ⟨t,a,b,e⟩; exact ⟨t,a,e⟩
    · rintro ⟨t,a,e⟩
      refine ⟨t,a,?_,e⟩
      have:=a.pos (by omega) (by rw [hdM_wk]; exact c2)
      apply Nat.pos_of_ne_zero
      intro z
      subst z
      rw [show cnt 0 = 0 from by decide] at this
      omega
end
end Go.MB
