/- Cuts: what the program's and the reference's searches come to: the same list. -/
import Derived.Test.YtfhomgggbhjglaaGreatMdA
namespace Go.MB
open Go Go.Sx Go.Proofs
set_option linter.unusedVariables false
set_option linter.unusedSimpArgs false
noncomputable section
def finS (x:Int):Fin 1024:=⟨x.toNat % 1024,Nat.mod_lt _ (by decide)⟩
def cmpF (x y:Fin 1024):Int:=cmpL (lsI x.val) (lsI y.val)
def ltF (x y:Fin 1024):Bool:=decide (cmpF x y < 0)
def sortF (l:List (Fin 1024)):List (Fin 1024):=l.mergeSort fun x y => !ltF y x
def sortS (l:List Int):List Int:=(sortF (l.map finS)).map fun x => (x.val:Int)
theorem ltF_irr (x:Fin 1024):ltF x x = false:=by unfold ltF cmpF; rw [cmpL_self]; rfl
theorem ltF_trans {x y z:Fin 1024} (h:ltF x y = true) (k:ltF y z = true):ltF x z = true:=by
  unfold ltF cmpF at *
  simp only [decide_eq_true_eq] at *
  exact (cmpL_trans (by omega) (by omega)).2 (.inl h)
theorem ltF_ntrans {x y z:Fin 1024} (h:ltF x y = false) (k:ltF y z = false):ltF x z = false:=by
  unfold ltF cmpF at *
  simp only [decide_eq_false_iff_not] at *
  have a1:=cmpL_neg (lsI x.val) (lsI y.val)
  have a2:=cmpL_neg (lsI y.val) (lsI z.val)
  have a3:=cmpL_neg (lsI x.val) (lsI z.val)
  have:=(cmpL_trans (a:=lsI z.val) (b:=lsI y.val) (c:=lsI x.val) (by omega) (by omega)).1
  omega
theorem ltF_tot {x y:Fin 1024} (h:ltF x y = false) (k:ltF y x = false):x = y:=by
  unfold ltF cmpF at *
  simp only [decide_eq_false_iff_not] at *
  have a1:=cmpL_neg (lsI x.val) (lsI y.val)
  exact Fin.ext (lsI_inj x.isLt y.isLt (cmpL_eq (by omega)))
theorem sortF_perm (l:List (Fin 1024)):(sortF l).Perm l:=List.mergeSort_perm l _
theorem sortF_pw (l:List (Fin 1024)):(sortF l).Pairwise fun x y => ltF y x = false:=by
  have h:=List.pairwise_mergeSort (le:=fun x y => !ltF y x) (fun a b c h k => by
    simp only [Bool.not_eq_true'] at *
    exact ltF_ntrans k h) (fun a b => by
    simp only [Bool.or_eq_true,Bool.not_eq_true']
    cases c:ltF b a with
    | false => exact .inl rfl
    | true =>
      refine .inr ?_
      cases d:ltF a b with
      | false => rfl
      | true => have:=ltF_trans c d; rw [ltF_irr] at this; cases this) l
  exact h.imp fun hh => by simpa using hh
theorem finS_val {x:Int} (h0:0 ≤ x) (h1:x < 1024):((finS x).val:Int) = x:=by unfold finS; dsimp only; omega
theorem sortS_mem {l:List Int} (h:∀ x ∈ l,0 ≤ x ∧ x < 1024) {x:Int}:x ∈ sortS l ↔ x ∈ l:=by
  unfold sortS
  rw [List.mem_map]
  constructor
  · rintro ⟨y,hy,rfl⟩
    have:=(sortF_perm _).mem_iff.1 hy
    obtain ⟨z,hz,rfl⟩:=List.mem_map.1 this
    rw [finS_val (h z hz).1 (h z hz).2]; exact hz
  · intro hx
    exact ⟨finS x,(sortF_perm _).mem_iff.2 (List.mem_map_of_mem hx),finS_val (h x hx).1 (h x hx).2⟩
theorem sortS_len (l:List Int):(sortS l).length = l.length:=by
  unfold sortS
  rw [List.length_map,(sortF_perm _).length_eq,List.length_map]
theorem sortS_pw {l:List Int} (h:∀ x ∈ l,0 ≤ x ∧ x < 1024) (hn:l.Nodup):(sortS l).Pairwise fun x y => cmpL (lsI x.toNat) (lsI y.toNat) < 0:=by
  unfold sortS
  rw [List.pairwise_map]
  have hnd:(sortF (l.map finS)).Nodup:=by
    rw [(sortF_perm _).nodup_iff]
    unfold List.Nodup
    rw [List.pairwise_map]
    refine List.Pairwise.imp_of_mem ?_ hn
    intro a b ha hb hne e
    have h1:=finS_val (h a ha).1 (h a ha).2
    have h2:=finS_val (h b hb).1 (h b hb).2
    rw [e] at h1
    omega
  refine ((sortF_pw _).and hnd).imp fun {a b} hh => ?_
  obtain ⟨h1,h2⟩:=hh
  rw [Int.toNat_natCast,Int.toNat_natCast]
  cases c:ltF a b with
  | true => unfold ltF cmpF at c; simpa using c
  | false => exact absurd (ltF_tot c h1) h2
def tkS (Wk:Nat) (hd:Nat → Bool) (size:Int) (cuts:List Int) (n:Int):Bool :=
  decide ((cnt n.toNat:Int) = size) && (decide (wo n.toNat Wk = 0) && (!hd (wo Wk n.toNat) && !(cuts.any fun c => decide (c.toNat &&& n.toNat = c.toNat))))
def smS (Wk:Nat) (hd:Nat → Bool) (size:Int) (cuts:List Int):Nat → Int → List Int
  | 0,_ => []
  | m + 1,n => if tkS Wk hd size cuts n = true then n :: smS Wk hd size cuts m (n + 1) else smS Wk hd size cuts m (n + 1)
def szS (N:Nat) (Wk:Nat) (hd:Nat → Bool):Nat → Int → List Int → List Int
  | 0,_,cuts => cuts
  | m + 1,size,cuts => szS N Wk hd m (size + 1) (cuts ++ sortS (smS Wk hd size cuts N 0))
def ctS (N:Nat) (Wk:Nat) (hd:Nat → Bool):List (List Int):=(szS N Wk hd 10 1 []).map fun c => lsI c.toNat
theorem smS_mem {Wk:Nat} {hd:Nat → Bool} {size:Int} {cuts:List Int}:∀ {m:Nat} {n x:Int},x ∈ smS Wk hd size cuts m n ↔ n ≤ x ∧ x < n + m ∧ tkS Wk hd size cuts x = true
  | 0,n,x => by
    rw [smS]
    exact ⟨fun h => (by cases h),fun h => by have:=h.1; have:=h.2.1; omega⟩
  | m + 1,n,x => by
    rw [smS]
    have ih:=@smS_mem Wk hd size cuts m (n + 1) x
    by_cases c:tkS Wk hd size cuts n = true
    · rw [if_pos c,List.mem_cons,ih]
      constructor
      · rintro (rfl | ⟨h1,h2,h3⟩)
        · exact ⟨by omega,by omega,c⟩
        · exact ⟨by omega,by omega,h3⟩
      · rintro ⟨h1,h2,h3⟩
        by_cases e:x = n
        · exact .inl e
        · exact .inr ⟨by omega,by omega,h3⟩
    · rw [if_neg c,ih]
      constructor
      · rintro ⟨h1,h2,h3⟩
        exact ⟨by omega,by omega,h3⟩
      · rintro ⟨h1,h2,h3⟩
        by_cases e:x = n
        · subst e; exact absurd h3 c
        · exact ⟨by omega,by omega,h3⟩
theorem smS_nodup {Wk:Nat} {hd:Nat → Bool} {size:Int} {cuts:List Int}:∀ {m:Nat} {n:Int},(smS Wk hd size cuts m n).Nodup
  | 0,n => List.nodup_nil
  | m + 1,n => by
    rw [smS]
    split
    · refine List.nodup_cons.2 ⟨fun h => ?_,smS_nodup⟩
      have:=(smS_mem.1 h).1
      omega
    · exact smS_nodup
theorem smS_len {Wk:Nat} {hd:Nat → Bool} {size:Int} {cuts:List Int}:∀ {m:Nat} {n:Int},(smS Wk hd size cuts m n).length ≤ m
  | 0,n => Nat.le_refl _
  | m + 1,n => by
    rw [smS]
    have:=@smS_len Wk hd size cuts m (n + 1)
    split
    · rw [List.length_cons]; omega
    · omega
structure UpTo (Wk:Nat) (hd:Nat → Bool) (k:Int) (cuts:List Int):Prop where
  rng:∀ c ∈ cuts,0 ≤ c ∧ c < 1024
  mem:∀ s:Nat,(s:Int) ∈ cuts ↔ MinC Wk hd s ∧ (cnt s:Int) < k
  pw:cuts.Pairwise fun x y => bfo (lsI x.toNat) (lsI y.toNat)
theorem tkS_iff {Wk:Nat} {hd:Nat → Bool} {k:Int} {cuts:List Int} (hW:Wk < 2 ^ 10) (hM:Mono hd) (u:UpTo Wk hd k cuts) {s:Nat} (hs:s < 2 ^ 10) :
    tkS Wk hd k cuts (s:Int) = true ↔ MinC Wk hd s ∧ (cnt s:Int) = k:=by
  unfold tkS
  rw [Int.toNat_natCast]
  simp only [Bool.and_eq_true,decide_eq_true_eq,Bool.not_eq_true',List.any_eq_false,wo_zero (show s < 2 ^ 64 by omega) (show Wk < 2 ^ 64 by omega)]
  constructor
  · rintro ⟨h1,h2,h3,h4⟩
    refine ⟨⟨h3,h2,fun t ht hne => ?_⟩,h1⟩
    cases c:hd (wo Wk t) with
    | true => rfl
    | false =>
      obtain ⟨x,hx,hxt⟩:=min_ex hW (cnt t) (Nat.le_refl _) (ht.trans h2) c
      have l1:=cnt_lt hs ht hne
      have l2:cnt x ≤ cnt t:=by
        by_cases e:x = t
        · rw [e]; exact Nat.le_refl _
        · exact Nat.le_of_lt (cnt_lt (ht.lt hs) hxt e)
      refine absurd ?_ (h4 (x:Int) ((u.mem x).2 ⟨hx,by omega⟩))
      rw [Int.toNat_natCast]
      exact and_self_of.2 (hxt.trans ht)
  · rintro ⟨h,h1⟩
    refine ⟨h1,h.sub,h.cut,fun c hc => ?_⟩
    obtain ⟨r1,r2⟩:=u.rng c hc
    obtain ⟨x,rfl⟩:=Int.eq_ofNat_of_zero_le r1
    rw [Int.toNat_natCast]
    intro hcs
    have hcs:Sb x s:=and_self_of.1 hcs
    obtain ⟨m1,m2⟩:=(u.mem x).1 hc
    by_cases e:x = s
    · subst e; omega
    · have:=h.min x hcs e
      rw [m1.cut] at this
      cases this
theorem upTo_step {Wk:Nat} {hd:Nat → Bool} {k:Int} {cuts:List Int} {n:Nat} (hn:n ≤ 10) (hW:Wk < 2 ^ n) (hM:Mono hd) (u:UpTo Wk hd k cuts) :
    UpTo Wk hd (k + 1) (cuts ++ sortS (smS Wk hd k cuts (2 ^ n) 0)):=by
  have hN:2 ^ n ≤ 2 ^ 10:=Nat.pow_le_pow_right (by decide) hn
  have hW' : Wk < 2 ^ 10:=by omega
  have hr:∀ x ∈ smS Wk hd k cuts (2 ^ n) 0,0 ≤ x ∧ x < 1024:=fun x hx => by
    have:=smS_mem.1 hx
    omega
  have hm:∀ s:Nat,(s:Int) ∈ smS Wk hd k cuts (2 ^ n) 0 ↔ MinC Wk hd s ∧ (cnt s:Int) = k:=fun s => by
    rw [smS_mem]
    constructor
    · rintro ⟨h1,h2,h3⟩
      exact (tkS_iff hW' hM u (by omega)).1 h3
    · rintro ⟨h1,h2⟩
      have:=h1.lt hW
      exact ⟨by omega,by omega,(tkS_iff hW' hM u (by omega)).2 ⟨h1,h2⟩⟩
  refine ⟨fun c hc => ?_,fun s => ?_,?_⟩
  · rcases List.mem_append.1 hc with h | h
    · exact u.rng c h
    · exact hr c ((sortS_mem hr).1 h)
  · rw [List.mem_append,u.mem,sortS_mem hr,hm]
    constructor
    · rintro (⟨h1,h2⟩ | ⟨h1,h2⟩)
      · exact ⟨h1,by omega⟩
      · exact ⟨h1,by omega⟩
    · rintro ⟨h1,h2⟩
      by_cases e:(cnt s:Int) < k
      · exact .inl ⟨h1,e⟩
      · exact .inr ⟨h1,by omega⟩
  · rw [List.pairwise_append]
    refine ⟨u.pw,?_,fun a ha b hb => ?_⟩
    · refine List.Pairwise.imp_of_mem ?_ (sortS_pw hr smS_nodup)
      intro a b ha hb h
      have ha:=(sortS_mem hr).1 ha
      have hb:=(sortS_mem hr).1 hb
      obtain ⟨a1,a2⟩:=hr a ha
      obtain ⟨b1,b2⟩:=hr b hb
      obtain ⟨x,rfl⟩:=Int.eq_ofNat_of_zero_le a1
      obtain ⟨y,rfl⟩:=Int.eq_ofNat_of_zero_le b1
      have:=(hm x).1 ha
      have:=(hm y).1 hb
      rw [Int.toNat_natCast,Int.toNat_natCast] at *
      exact .inr ⟨by rw [lsI_len,lsI_len]; omega,h⟩
    · have hb:=(sortS_mem hr).1 hb
      obtain ⟨a1,a2⟩:=u.rng a ha
      obtain ⟨b1,b2⟩:=hr b hb
      obtain ⟨x,rfl⟩:=Int.eq_ofNat_of_zero_le a1
      obtain ⟨y,rfl⟩:=Int.eq_ofNat_of_zero_le b1
      have:=(u.mem x).1 ha
      have:=(hm y).1 hb
      rw [Int.toNat_natCast,Int.toNat_natCast] at *
      exact .inl (by rw [lsI_len,lsI_len]; omega)
theorem szS_ok {Wk:Nat} {hd:Nat → Bool} {n:Nat} (hn:n ≤ 10) (hW:Wk < 2 ^ n) (hM:Mono hd):∀ {m:Nat} {k:Int} {cuts:List Int},UpTo Wk hd k cuts → UpTo Wk hd (k + m) (szS (2 ^ n) Wk hd m k cuts)
  | 0,k,cuts,u => by rw [szS]; simpa using u
  | m + 1,k,cuts,u => by
    rw [szS,show k + ((m + 1:Nat):Int) = k + 1 + m by omega]
    exact szS_ok hn hW hM (upTo_step hn hW hM u)
theorem szS_len {N Wk:Nat} {hd:Nat → Bool}:∀ {m:Nat} {k:Int} {cuts:List Int},(szS N Wk hd m k cuts).length ≤ cuts.length + m * N
  | 0,k,cuts => by rw [szS]; omega
  | m + 1,k,cuts => by
    rw [szS]
    have h1:=@szS_len N Wk hd m (k + 1) (cuts ++ sortS (smS Wk hd k cuts N 0))
    have h2:=@smS_len Wk hd k cuts N 0
    rw [List.length_append,sortS_len] at h1
    rw [Nat.add_mul]
    omega
structure CutsOk (Wk:Nat) (hd:Nat → Bool) (l:List (List Int)):Prop where
  mem:∀ x,x ∈ l ↔ ∃ s,MinC Wk hd s ∧ x = lsI s
  pw:l.Pairwise bfo
theorem MinC.pos {Wk:Nat} {hd:Nat → Bool} {s:Nat} (hW:Wk < 2 ^ 10) (h0:hd Wk = true) (h:MinC Wk hd s):0 < cnt s:=by
  apply Nat.pos_of_ne_zero
  intro e
  have e:=cnt_zero (h.lt hW) e
  have hc:=h.cut
  rw [e,show wo Wk 0 = Wk from Nat.eq_of_testBit_eq fun j => by rw [wo_bit (by omega) (by decide)]; simp] at hc
  rw [hc] at h0
  cases h0
theorem ctS_ok {Wk:Nat} {hd:Nat → Bool} {n:Nat} (hn:n ≤ 10) (hW:Wk < 2 ^ n) (hM:Mono hd) (h0:hd Wk = true):CutsOk Wk hd (ctS (2 ^ n) Wk hd):=by
  have hW' : Wk < 2 ^ 10:=Nat.lt_of_lt_of_le hW (Nat.pow_le_pow_right (by decide) hn)
  have u0:UpTo Wk hd 1 []:=⟨fun c hc => (by cases hc),fun s => ⟨fun h => (by cases h),fun h => by have:=h.1.pos hW' h0; omega⟩,List.Pairwise.nil⟩
  have u:=szS_ok hn hW hM (m:=10) u0
  refine ⟨fun x => ?_,?_⟩
  · unfold ctS
    rw [List.mem_map]
    constructor
    · rintro ⟨c,hc,rfl⟩
      obtain ⟨r1,r2⟩:=u.rng c hc
      obtain ⟨s,rfl⟩:=Int.eq_ofNat_of_zero_le r1
      exact ⟨s,((u.mem s).1 hc).1,by rw [Int.toNat_natCast]⟩
    · rintro ⟨s,hs,rfl⟩
      have:=cnt_le10 s
      exact ⟨(s:Int),(u.mem s).2 ⟨hs,by omega⟩,by rw [Int.toNat_natCast]⟩
  · unfold ctS
    rw [List.pairwise_map]
    exact u.pw
def fl (n s:Nat):List Bool:=(List.range n).map fun j => s.testBit j
theorem fl_len (n s:Nat):(fl n s).length = n:=by unfold fl; rw [List.length_map,List.length_range]
theorem fl_at {n s:Nat} (hs:s < 2 ^ n) (j:Nat):(fl n s).getD j false = s.testBit j:=by
  unfold fl
  rw [List.getD_eq_getElem?_getD,List.getElem?_map]
  by_cases h:j < n
  · rw [List.getElem?_range h]; rfl
  · rw [List.getElem?_eq_none (by rw [List.length_range]; omega),Nat.testBit_lt_two_pow (Nat.lt_of_lt_of_le hs (Nat.pow_le_pow_right (by decide) (by omega)))]
    rfl
theorem ext_getD {f g:List Bool} (hl:f.length = g.length) (h:∀ j,f.getD j false = g.getD j false):f = g:=by
  refine List.ext_getElem hl fun j h1 h2 => ?_
  have:=h j
  rw [List.getD_eq_getElem?_getD,List.getD_eq_getElem?_getD,List.getElem?_eq_getElem h1,List.getElem?_eq_getElem h2] at this
  exact this
def hdN (h:Hs) (s:Nat):Bool:=(proofF h (fl h.1.length s)).isSome
theorem hdN_mono {h:Hs} (hn:0 ≤ h.2.2) (n:Nat):∀ a b:Nat,a < 2 ^ h.1.length → b < 2 ^ h.1.length → Sb a b → hdN h a = true → hdN h b = true:=fun a b ha hb hs hh =>
  proofF_mono hn (fun i hi => by rw [fl_at ha] at hi; rw [fl_at hb]; exact hs i hi) hh
def hdM (h:Hs) (s:Nat):Bool:=hdN h (s % 2 ^ h.1.length)
theorem hdM_eq {h:Hs} {s:Nat} (hs:s < 2 ^ h.1.length):hdM h s = hdN h s:=by unfold hdM; rw [Nat.mod_eq_of_lt hs]
theorem hdM_mono {h:Hs} (hn:0 ≤ h.2.2):Mono (hdM h):=fun a b hs hh => by
  refine hdN_mono hn 0 _ _ (Nat.mod_lt _ (Nat.pow_pos (by decide))) (Nat.mod_lt _ (Nat.pow_pos (by decide))) (fun j hj => ?_) hh
  rw [Nat.testBit_mod_two_pow] at *
  simp only [Bool.and_eq_true,decide_eq_true_eq] at *
  exact ⟨hj.1,hs j hj.2⟩
def wkS (h:Hs) (tick press:Int):Nat:=worksN tick press h.1 0 0
theorem wkS_bit (h:Hs) (tick press:Int) (j:Nat):(wkS h tick press).testBit j = (soundF h tick press).getD j false:=by
  unfold wkS soundF
  rw [worksN_bit,Nat.zero_testBit,Bool.false_or,decide_eq_true (Nat.zero_le j),Bool.true_and,Nat.sub_zero]
theorem soundF_len (h:Hs) (tick press:Int):(soundF h tick press).length = h.1.length:=by unfold soundF; rw [List.length_map]
theorem wkS_lt (h:Hs) (tick press:Int):wkS h tick press < 2 ^ h.1.length:=lt_of_bits fun j hj => by
  rw [wkS_bit,List.getD_eq_getElem?_getD,List.getElem?_eq_none (by rw [soundF_len]; exact hj)]
  rfl
theorem fl_wk (h:Hs) (tick press:Int):fl h.1.length (wkS h tick press) = soundF h tick press :=
  ext_getD (by rw [fl_len,soundF_len]) fun j => by rw [fl_at (wkS_lt h tick press),wkS_bit]
theorem hdM_wk (h:Hs) (tick press:Int):hdM h (wkS h tick press) = holdsS h tick press:=by
  rw [hdM_eq (wkS_lt h tick press)]
  unfold hdN holdsS
  rw [fl_wk]
def cutsS (h:Hs) (tick press:Int):List (List Int) :=
  if houseE h ≠ 0 ∨ holdsS h tick press = false then [] else ctS (2 ^ h.1.length) (wkS h tick press) (hdM h)
end
end Go.MB
