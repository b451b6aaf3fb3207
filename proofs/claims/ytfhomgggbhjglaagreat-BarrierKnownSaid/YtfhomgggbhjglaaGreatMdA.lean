/- Cuts: sets of elements without which the rule does not hold, though it does without any lesser set: the plain law. -/
import Derived.Test.YtfhomgggbhjglaaGreatMuP
import Derived.Laws.BitsAllLaws
namespace Go.MB
open Go Go.Sx Go.Proofs
set_option linter.unusedVariables false
set_option linter.unusedSimpArgs false
noncomputable section
def wo (a b:Nat):Nat:=a &&& (18446744073709551615 - b)
theorem lt_bit {a n j:Nat} (ha:a < 2 ^ n) (h:a.testBit j = true):j < n:=by
  rcases Nat.lt_or_ge j n with c | c
  · exact c
  · rw [Nat.testBit_lt_two_pow (Nat.lt_of_lt_of_le ha (Nat.pow_le_pow_right (by decide) c))] at h
    cases h
theorem wo_bit {a b:Nat} (ha:a < 2 ^ 64) (hb:b < 2 ^ 64) (j:Nat):(wo a b).testBit j = (a.testBit j && !b.testBit j):=by
  unfold wo
  rw [Nat.testBit_and,show (18446744073709551615 - b:Nat) = 2 ^ 64 - (b + 1) by omega,Nat.testBit_two_pow_sub_succ hb]
  cases c:a.testBit j with
  | false => rfl
  | true => rw [decide_eq_true (lt_bit ha c),Bool.true_and,Bool.true_and]
def Sb (a b:Nat):Prop:=∀ j,a.testBit j = true → b.testBit j = true
theorem Sb.refl (a:Nat):Sb a a:=fun _ h => h
theorem Sb.trans {a b c:Nat} (h:Sb a b) (k:Sb b c):Sb a c:=fun j hj => k j (h j hj)
theorem Sb.anti {a b:Nat} (h:Sb a b) (k:Sb b a):a = b:=Nat.eq_of_testBit_eq fun j => by
  have h1:=h j
  have h2:=k j
  cases c:a.testBit j <;> cases d:b.testBit j <;> simp_all
theorem Sb.lt {a b n:Nat} (h:Sb a b) (hb:b < 2 ^ n):a < 2 ^ n:=lt_of_bits fun j hj => by
  cases c:a.testBit j with
  | false => rfl
  | true => have:=lt_bit hb (h j c); omega
theorem wo_zero {a b:Nat} (ha:a < 2 ^ 64) (hb:b < 2 ^ 64):wo a b = 0 ↔ Sb a b:=by
  constructor
  · intro h j hj
    have:=wo_bit ha hb j
    rw [h,Nat.zero_testBit,hj] at this
    simpa using this.symm
  · intro h
    refine Nat.eq_of_testBit_eq fun j => ?_
    rw [wo_bit ha hb,Nat.zero_testBit]
    have:=h j
    cases c:a.testBit j <;> simp_all
theorem wo_sub {a b:Nat} (ha:a < 2 ^ 64) (hb:b < 2 ^ 64):Sb (wo a b) a:=fun j hj => by
  rw [wo_bit ha hb] at hj
  cases c:a.testBit j <;> simp_all
theorem wo_lt {a b n:Nat} (hn:n ≤ 64) (ha:a < 2 ^ n) (hb:b < 2 ^ 64):wo a b < 2 ^ n :=
  (wo_sub (Nat.lt_of_lt_of_le ha (Nat.pow_le_pow_right (by decide) hn)) hb).lt ha
theorem wo_anti {a b c:Nat} (ha:a < 2 ^ 64) (hb:b < 2 ^ 64) (hc:c < 2 ^ 64) (h:Sb b c):Sb (wo a c) (wo a b):=fun j hj => by
  rw [wo_bit ha hc] at hj
  rw [wo_bit ha hb]
  have:=h j
  cases c1:b.testBit j <;> cases c2:c.testBit j <;> cases c3:a.testBit j <;> simp_all
def lsN (s:Nat):List Nat:=(List.range 10).filter fun j => s.testBit j
def lsI (s:Nat):List Int:=(lsN s).map fun (j:Nat) => (j:Int)
def cnt (s:Nat):Nat:=(lsN s).length
theorem lsI_len (s:Nat):(lsI s).length = cnt s:=by unfold lsI cnt; rw [List.length_map]
theorem mem_lsN {s j:Nat}:j ∈ lsN s ↔ j < 10 ∧ s.testBit j = true:=by unfold lsN; rw [List.mem_filter,List.mem_range]
theorem mem_lsI {s:Nat} {x:Int}:x ∈ lsI s ↔ 0 ≤ x ∧ x < 10 ∧ s.testBit x.toNat = true:=by
  unfold lsI
  rw [List.mem_map]
  constructor
  · rintro ⟨j,hj,rfl⟩
    obtain ⟨h1,h2⟩:=mem_lsN.1 hj
    exact ⟨by omega,by omega,by rw [Int.toNat_natCast]; exact h2⟩
  · rintro ⟨h0,h1,h2⟩
    exact ⟨x.toNat,mem_lsN.2 ⟨by omega,h2⟩,by omega⟩
theorem lsI_inj {a b:Nat} (ha:a < 2 ^ 10) (hb:b < 2 ^ 10) (h:lsI a = lsI b):a = b:=by
  have key:∀ {a b:Nat},a < 2 ^ 10 → lsI a = lsI b → Sb a b:=fun {a b} ha h j hj => by
    have:(j:Int) ∈ lsI a:=mem_lsI.2 ⟨by omega,by have:=lt_bit ha hj; omega,by rw [Int.toNat_natCast]; exact hj⟩
    rw [h] at this
    have:=(mem_lsI.1 this).2.2
    rwa [Int.toNat_natCast] at this
  exact (key ha h).anti (key hb h.symm)
theorem cnt_lt {a b:Nat} (hb:b < 2 ^ 10) (h:Sb a b) (hne:a ≠ b):cnt a < cnt b:=by
  have e:lsN a = (lsN b).filter fun j => a.testBit j:=by
    unfold lsN
    rw [List.filter_filter]
    congr 1
    funext j
    have:=h j
    cases c:a.testBit j <;> simp_all
  unfold cnt
  rw [e]
  rw [List.length_filter_lt_length_iff_exists]
  apply Classical.byContradiction
  intro hno
  refine hne (h.anti fun j hj => ?_)
  apply Classical.byContradiction
  intro hj'
  exact hno ⟨j,mem_lsN.2 ⟨lt_bit hb hj,hj⟩,hj'⟩
theorem cnt_le10 (s:Nat):cnt s ≤ 10:=by
  unfold cnt lsN
  exact Nat.le_trans (List.length_filter_le _ _) (by rw [List.length_range]; exact Nat.le_refl _)
theorem cnt_zero {s:Nat} (hs:s < 2 ^ 10) (h:cnt s = 0):s = 0:=by
  refine Sb.anti (fun j hj => ?_) (fun j hj => by rw [Nat.zero_testBit] at hj; cases hj)
  have:j ∈ lsN s:=mem_lsN.2 ⟨lt_bit hs hj,hj⟩
  unfold cnt at h
  rw [List.length_eq_zero_iff.1 h] at this
  cases this
def er (s i:Nat):Nat:=wo s (1 <<< i)
theorem er_bit {s i:Nat} (hs:s < 2 ^ 10) (hi:i < 10) (j:Nat):(er s i).testBit j = (s.testBit j && !decide (i = j)):=by
  unfold er
  have h1:1 <<< i < 2 ^ 64:=by rw [Nat.one_shiftLeft]; exact Nat.pow_lt_pow_right (by decide) (by omega)
  rw [wo_bit (by omega) h1,Nat.one_shiftLeft,Nat.testBit_two_pow]
theorem er_sub {s i:Nat} (hs:s < 2 ^ 10) (hi:i < 10):Sb (er s i) s:=fun j hj => by
  rw [er_bit hs hi] at hj
  cases c:s.testBit j <;> simp_all
theorem er_ne {s i:Nat} (hs:s < 2 ^ 10) (h:s.testBit i = true):er s i ≠ s:=fun e => by
  have:=er_bit hs (lt_bit hs h) i
  rw [e,h] at this
  simp at this
structure MinC (Wk:Nat) (hd:Nat → Bool) (s:Nat):Prop where
  cut:hd (wo Wk s) = false
  sub:Sb s Wk
  min:∀ t,Sb t s → t ≠ s → hd (wo Wk t) = true
abbrev Mono (hd:Nat → Bool):Prop:=∀ a b,Sb a b → hd a = true → hd b = true
theorem MinC.lt {Wk:Nat} {hd:Nat → Bool} {s n:Nat} (h:MinC Wk hd s) (hW:Wk < 2 ^ n):s < 2 ^ n:=h.sub.lt hW
theorem minC_iff {Wk:Nat} {hd:Nat → Bool} {s:Nat} (hW:Wk < 2 ^ 10) (hs:s < 2 ^ 10) (hM:Mono hd) :
    MinC Wk hd s ↔ hd (wo Wk s) = false ∧ ∀ i,i < 10 → s.testBit i = true → Wk.testBit i = true ∧ hd (wo Wk (er s i)) = true:=by
  constructor
  · rintro ⟨h1,h2,h3⟩
    exact ⟨h1,fun i hi hb => ⟨h2 i hb,h3 _ (er_sub hs hi) (er_ne hs hb)⟩⟩
  · rintro ⟨h1,h2⟩
    refine ⟨h1,fun j hj => (h2 j (lt_bit hs hj) hj).1,fun t ht hne => ?_⟩
    apply Classical.byContradiction
    intro hno
    refine hne (ht.anti fun j hj => ?_)
    apply Classical.byContradiction
    intro hj'
    have hi:=lt_bit hs hj
    refine hno (hM _ _ (wo_anti (by omega) (by have:=ht.lt hs; omega) (by have:=(er_sub hs hi).lt hs; omega) fun k hk => ?_) (h2 j hi hj).2)
    rw [er_bit hs hi,ht k hk,Bool.true_and]
    by_cases e:j = k
    · subst e; exact absurd hk hj'
    · simp [e]
theorem min_ex {Wk:Nat} {hd:Nat → Bool} (hW:Wk < 2 ^ 10):∀ (n:Nat) {X:Nat},cnt X ≤ n → Sb X Wk → hd (wo Wk X) = false → ∃ s,MinC Wk hd s ∧ Sb s X
  | n,X,hn,hX,hf => by
    by_cases hm:MinC Wk hd X
    · exact ⟨X,hm,Sb.refl X⟩
    · have : ∃ t,Sb t X ∧ t ≠ X ∧ hd (wo Wk t) = false:=by
        apply Classical.byContradiction
        intro hno
        refine hm ⟨hf,hX,fun t h1 h2 => ?_⟩
        cases c:hd (wo Wk t) with
        | true => rfl
        | false => exact absurd ⟨t,h1,h2,c⟩ hno
      obtain ⟨t,h1,h2,h3⟩:=this
      have hl:=cnt_lt (hX.lt hW) h1 h2
      cases n with
      | zero => omega
      | succ n =>
        obtain ⟨s,k1,k2⟩:=min_ex hW n (by omega) (h1.trans hX) h3
        exact ⟨s,k1,k2.trans h1⟩
def cmpL:List Int → List Int → Int
  | [],[] => 0
  | [],_ :: _ => -1
  | _ :: _,[] => 1
  | x :: a,y :: b => if x < y then -1 else if y < x then 1 else cmpL a b
theorem cmpL_self:∀ a:List Int,cmpL a a = 0
  | [] => rfl
  | x :: a => by rw [cmpL,if_neg (by omega),if_neg (by omega),cmpL_self a]
theorem cmpL_neg:∀ a b:List Int,cmpL b a = - cmpL a b
  | [],[] => rfl
  | [],_ :: _ => rfl
  | _ :: _,[] => rfl
  | x :: a,y :: b => by
    rw [cmpL,cmpL]
    have:=cmpL_neg a b
    split <;> split <;> first | omega | (split <;> omega) | skip
theorem cmpL_eq:∀ {a b:List Int},cmpL a b = 0 → a = b
  | [],[],_ => rfl
  | [],_ :: _,h => by cases h
  | _ :: _,[],h => by cases h
  | x :: a,y :: b,h => by
    rw [cmpL] at h
    split at h
    · cases h
    split at h
    · cases h
    rw [show x = y by omega,cmpL_eq h]
theorem cmpL_trans:∀ {a b c:List Int},cmpL a b ≤ 0 → cmpL b c ≤ 0 → cmpL a c ≤ 0 ∧ (cmpL a b < 0 ∨ cmpL b c < 0 → cmpL a c < 0)
  | [],[],[],_,_ => ⟨by decide,fun h => by rcases h with h | h <;> exact absurd h (by decide)⟩
  | [],[],_ :: _,_,_ => ⟨by show (-1:Int) ≤ 0; decide,fun _ => by show (-1:Int) < 0; decide⟩
  | [],_ :: _,[],_,h => absurd h (by show ¬ (1:Int) ≤ 0; decide)
  | [],_ :: _,_ :: _,_,_ => ⟨by show (-1:Int) ≤ 0; decide,fun _ => by show (-1:Int) < 0; decide⟩
  | _ :: _,[],_,h,_ => absurd h (by show ¬ (1:Int) ≤ 0; decide)
  | _ :: _,_ :: _,[],_,h => absurd h (by show ¬ (1:Int) ≤ 0; decide)
  | x :: a,y :: b,z :: c,h1,h2 => by
    have ih:=@cmpL_trans a b c
    rw [cmpL] at h1 h2
    rw [cmpL,cmpL,cmpL]
    split at h1
    · split at h2
      · rw [if_pos (by omega)]; exact ⟨by decide,fun _ => by decide⟩
      · split at h2
        · omega
        · rw [if_pos (by omega)]; exact ⟨by decide,fun _ => by decide⟩
    · split at h1
      · omega
      · split at h2
        · rw [if_pos (by omega)]; exact ⟨by decide,fun _ => by decide⟩
        · split at h2
          · omega
          · rename_i p1 p2 p3 p4
            rw [if_neg (by omega),if_neg (by omega),if_neg p1,if_neg p2,if_neg p3,if_neg p4]
            exact ih h1 h2
def bfo (a b:List Int):Prop:=a.length < b.length ∨ a.length = b.length ∧ cmpL a b < 0
theorem bfo_irr (a:List Int):¬ bfo a a:=fun h => by
  rcases h with h | ⟨_,h⟩
  · omega
  · rw [cmpL_self] at h; omega
theorem bfo_trans {a b c:List Int} (h:bfo a b) (k:bfo b c):bfo a c:=by
  rcases h with h | ⟨h,h'⟩
  · rcases k with k | ⟨k,k'⟩
    · exact .inl (by omega)
    · exact .inl (by omega)
  · rcases k with k | ⟨k,k'⟩
    · exact .inl (by omega)
    · exact .inr ⟨by omega,(cmpL_trans (by omega) (by omega)).2 (.inl h')⟩
theorem bfo_tot {a b:List Int} (hne:a ≠ b):bfo a b ∨ bfo b a:=by
  rcases Nat.lt_trichotomy a.length b.length with h | h | h
  · exact .inl (.inl h)
  · have hn:=cmpL_neg a b
    have:cmpL a b ≠ 0:=fun e => hne (cmpL_eq e)
    by_cases c:cmpL a b < 0
    · exact .inl (.inr ⟨h,c⟩)
    · exact .inr (.inr ⟨h.symm,by omega⟩)
  · exact .inr (.inl h)
theorem ord_uniq {α:Type} {R:α → α → Prop} (irr:∀ a,¬ R a a) (tr:∀ {a b c},R a b → R b c → R a c):∀ {l m:List α},l.Pairwise R → m.Pairwise R → (∀ x,x ∈ l ↔ x ∈ m) → l = m
  | [],[],_,_,_ => rfl
  | [],y :: m,_,_,h => by have:=(h y).2 (List.mem_cons_self ..); cases this
  | x :: l,[],_,_,h => by have:=(h x).1 (List.mem_cons_self ..); cases this
  | x :: l,y :: m,hl,hm,h => by
    obtain ⟨l1,l2⟩:=List.pairwise_cons.1 hl
    obtain ⟨m1,m2⟩:=List.pairwise_cons.1 hm
    have e:x = y:=by
      rcases List.mem_cons.1 ((h x).1 (List.mem_cons_self ..)) with e | hx
      · exact e
      rcases List.mem_cons.1 ((h y).2 (List.mem_cons_self ..)) with e | hy
      · exact e.symm
      exact absurd (tr (l1 y hy) (m1 x hx)) (irr x)
    subst e
    rw [ord_uniq irr tr l2 m2 fun z => ?_]
    constructor
    · intro hz
      rcases List.mem_cons.1 ((h z).1 (List.mem_cons_of_mem _ hz)) with e | hz'
      · subst e; exact absurd (l1 z hz) (irr z)
      · exact hz'
    · intro hz
      rcases List.mem_cons.1 ((h z).2 (List.mem_cons_of_mem _ hz)) with e | hz'
      · subst e; exact absurd (m1 z hz) (irr z)
      · exact hz'
end
end Go.MB
