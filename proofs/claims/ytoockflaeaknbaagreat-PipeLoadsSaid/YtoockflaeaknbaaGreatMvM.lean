/- The laws PipeModes, PipeMore, PipeBounds: loads compared. -/
import Derived.Test.YtoockflaeaknbaaGreatMvL
namespace Go.MP
open Go Go.Sx Go.Proofs
set_option linter.unusedVariables false
set_option linter.unusedSimpArgs false
noncomputable section
theorem runS_cons (l:List Tb) (p:Pth) (c:Cs) (below:Int) (x:H4) (q:Pc) (r:List Pc):runS l p c below x (q :: r) =
    if wildS (step1 l p c below q x) = true then (false,[],[])
    else if wildS (step2 l p c q (step1 l p c below q x)) = true then (false,[],[])
    else if wildS (step3 l p c q (step2 l p c q (step1 l p c below q x))) = true then (false,[],[])
    else ((runS l p c q.2.1 (step3 l p c q (step2 l p c q (step1 l p c below q x))) r).1,
      (q.2.2.1,((step3 l p c q (step2 l p c q (step1 l p c below q x))).1,(step3 l p c q (step2 l p c q (step1 l p c below q x))).2.1),(step3 l p c q (step2 l p c q (step1 l p c below q x))).2.2) :: (runS l p c q.2.1 (step3 l p c q (step2 l p c q (step1 l p c below q x))) r).2.1,
      ((step1 l p c below q x).1,(step1 l p c below q x).2.1) :: (runS l p c q.2.1 (step3 l p c q (step2 l p c q (step1 l p c below q x))) r).2.2):=rfl
theorem runS_len (l:List Tb) (p:Pth) (c:Cs):∀ (m:List Pc) (below:Int) (x:H4),(runS l p c below x m).1 = true → (runS l p c below x m).2.1.length = m.length ∧ (runS l p c below x m).2.2.length = m.length
  | [],_,_,_ => ⟨rfl,rfl⟩
  | q :: m,below,x,h => by
    rw [runS_cons] at h ⊢
    split at h
    · cases h
    rename_i w1
    rw [if_neg w1]
    split at h
    · cases h
    rename_i w2
    rw [if_neg w2]
    split at h
    · cases h
    rename_i w3
    rw [if_neg w3]
    obtain ⟨a,b⟩:=runS_len l p c m _ _ h
    exact ⟨by rw [List.length_cons,List.length_cons,a],by rw [List.length_cons,List.length_cons,b]⟩
inductive Chain (l:List Tb) (p:Pth):Int → List Pc → Prop where
  | nil (b:Int):Chain l p b []
  | cons (b:Int) (q:Pc) (r:List Pc) (hb:b ≥ 0 → b ≠ q.2.1 → OkB (bendV (pcV p q) (p.2.getD b.toNat zV))) (hl:legOk (pcV p q)) (ht:Fair (pcT l q)) (hm:pcT l q ∈ l) (hw:0 < q.2.2.2 - q.2.2.1 ∧ q.2.2.2 - q.2.2.1 ≤ 1048576) (hg:pcV p q ∈ p.2) (hr:Chain l p q.2.1 r):Chain l p b (q :: r)
theorem chain_tube {l:List Tb} {p:Pth} (hf:fitsS l p = 0) {ks:List K2} (hks:ks = knots p.1 p.2) {i:Int} (i0:0 ≤ i) (i1:i < l.length) {top:Int} (h0:0 ≤ top) (rest:List Pc):∀ (n:Nat) (to b:Int),(to - top).toNat ≤ n → top ≤ to → to ≤ lenS p → to ≤ 1048576 → b < p.2.length → (b ≥ 0 → 0 < to → b = legOf ks to ∨ b = legOf ks to + 1) →
    (∀ b' : Int,b' < p.2.length → (b' ≥ 0 → 0 < top → b' = legOf ks top ∨ b' = legOf ks top + 1) → Chain l p b' rest) → Chain l p b (tubeS ks i top to ++ rest):=by
  have hd:Down ks (lenS p):=by rw [hks]; exact fits_down hf
  have hkl:(ks.length:Int) = p.2.length + 1:=by rw [hks]; have:=knots_length p.1 p.2; omega
  obtain ⟨f1,f2,f3⟩:=fitsS_ok hf
  obtain ⟨_,_,g3,_⟩:=checkT_ok f1
  intro n
  induction n with
  | zero =>
    intro to b hn ht hL h20 hb hadj hrest
    have e:to = top:=by omega
    subst e
    rw [tubeS_nil _ _ _ (Int.le_refl _),List.nil_append]
    exact hrest b hb hadj
  | succ n ih =>
    intro to b hn ht hL h20 hb hadj hrest
    by_cases hto:to ≤ top
    · have e:to = top:=by omega
      subst e
      rw [tubeS_nil _ _ _ (Int.le_refl _),List.nil_append]
      exact hrest b hb hadj
    · obtain ⟨l1,l2,l3,l4⟩:=legOf_ok hd (show 0 < to by omega) hL
      have hm:top ≤ maxI top (knotA ks (legOf ks to)) ∧ maxI top (knotA ks (legOf ks to)) < to ∧ knotA ks (legOf ks to) ≤ maxI top (knotA ks (legOf ks to)):=by rw [maxI_eq]; omega
      rw [tubeS_step hd i h0 (by omega) hL,List.cons_append]
      generalize maxI top (knotA ks (legOf ks to)) = fr at *
      have hmem:=mem_getD (d:=zT) i0 i1
      have hleg:p.2.getD (legOf ks to).toNat zV ∈ p.2:=mem_getD l1 (by omega)
      refine Chain.cons b _ _ ?_ (checkS_legs f2 _ hleg) (g3 _ hmem) hmem (by show 0 < to - fr ∧ to - fr ≤ 1048576; omega) hleg (ih fr (legOf ks to) (by omega) hm.1 (by omega) (by omega) (by omega) (fun _ f0 => ?_) hrest)
      · intro b0 b1
        exact bend_adj f2 l1 (hadj b0 (by omega)) hb b1
      · rcases legOf_adj hd (show 0 < to by omega) hL f0 (by omega) hm.2.2 with e | e
        · exact .inl e
        · exact .inr e
theorem chain_pcs {l0:List Tb} {p:Pth} (hf:fitsS l0 p = 0) {ks:List K2} (hks:ks = knots p.1 p.2):∀ (l:List Tb) (i b:Int),0 ≤ i → l = l0.drop i.toNat → (i ≤ l0.length) → sumT l ≤ lenS p → sumT l ≤ 1048576 → b < p.2.length → (b ≥ 0 → 0 < sumT l → b = legOf ks (sumT l) ∨ b = legOf ks (sumT l) + 1) → Chain l0 p b (pcsL ks i (sumT l) l):=by
  obtain ⟨f1,f2,f3⟩:=fitsS_ok hf
  obtain ⟨_,_,g3,_⟩:=checkT_ok f1
  intro l
  induction l with
  | nil => intro i b _ _ _ _ _ _ _; exact Chain.nil b
  | cons t r ih =>
    intro i b i0 hl hi hL h20 hb hadj
    have hlt:i < l0.length:=by
      rcases Int.lt_or_le i l0.length with h | h
      · exact h
      · rw [List.drop_eq_nil_of_le (by omega)] at hl; cases hl
    have hcons:=drop_step zT i0 hlt
    rw [← hl] at hcons
    injection hcons with ht hr
    have hfair:Fair t:=by rw [ht]; exact g3 _ (mem_getD i0 hlt)
    have hp:=hfair.prod
    have hrs:=(sumT_rng r (by rw [hr]; exact g3.drop _)).1
    have e:sumT (t :: r) - t.1 * t.2.1 = sumT r:=by rw [sumT]; omega
    rw [sumT] at hL h20
    rw [pcsL,e]
    refine chain_tube hf hks i0 hlt hrs _ _ _ b (Nat.le_refl _) (by rw [sumT]; omega) (by rw [sumT]; exact hL) (by rw [sumT]; exact h20) hb hadj ?_
    intro b' hb' hadj'
    exact ih (i + 1) b' (by omega) hr (by omega) (by omega) (by omega) hb' hadj'
theorem chain_all {l:List Tb} {p:Pth} (hf:fitsS l p = 0):Chain l p (-1) (pcsS l p):=by
  obtain ⟨f1,f2,f3⟩:=fitsS_ok hf
  obtain ⟨_,_,_,g4⟩:=checkT_ok f1
  unfold pcsS
  rw [if_pos hf]
  exact chain_pcs hf rfl l 0 (-1) (by decide) (by simp) (by omega) f3 g4 (by omega) (fun h => absurd h (by decide))
theorem tubeS_legs {ks:List K2} {L:Int} (hd:Down ks L) (i:Int) {top:Int} (h0:0 ≤ top):∀ (n:Nat) (to:Int),(to - top).toNat ≤ n → top < to → to ≤ L → ((tubeS ks i top to).length:Int) ≤ legOf ks to + 1:=by
  intro n
  induction n with
  | zero => intro to hn ht hL; omega
  | succ n ih =>
    intro to hn ht hL
    obtain ⟨l1,l2,l3,l4⟩:=legOf_ok hd (show 0 < to by omega) hL
    rw [tubeS_step hd i h0 ht hL,List.length_cons]
    by_cases hk:knotA ks (legOf ks to) ≤ top
    · have e:maxI top (knotA ks (legOf ks to)) = top:=by rw [maxI_eq]; omega
      rw [e,tubeS_nil _ _ _ (Int.le_refl _),List.length_nil]; omega
    · have e:maxI top (knotA ks (legOf ks to)) = knotA ks (legOf ks to):=by rw [maxI_eq]; omega
      rw [e]
      have h2:=ih (knotA ks (legOf ks to)) (by omega) (by omega) (by omega)
      obtain ⟨m1,m2,m3,m4⟩:=legOf_ok hd (show 0 < knotA ks (legOf ks to) by omega) (show knotA ks (legOf ks to) ≤ L by omega)
      have:legOf ks (knotA ks (legOf ks to)) < legOf ks to:=by
        rcases Int.lt_or_le (legOf ks (knotA ks (legOf ks to))) (legOf ks to) with h | h
        · exact h
        · have:=hd.asc (legOf ks to) (legOf ks (knotA ks (legOf ks to))) l1 h (by omega)
          omega
      omega
theorem pcsL_few {ks:List K2} {L:Int} (hd:Down ks L) (hk:(ks.length:Int) ≤ 21) (l:List Tb):AllF l → ∀ i to:Int,to = sumT l → to ≤ L → ((pcsL ks i to l).length:Int) ≤ 20 * l.length:=by
  induction l with
  | nil => intro _ i to h _; simp [pcsL]
  | cons t r ih =>
    intro h i to h1 h2
    have hp:=(h t (by simp)).prod
    have hr:=(sumT_rng r fun u hu => h u (by simp [hu])).1
    rw [sumT] at h1
    have h3:=ih (fun u hu => h u (by simp [hu])) (i + 1) (to - t.1 * t.2.1) (by omega) (by omega)
    have h4:=tubeS_legs hd i (show 0 ≤ to - t.1 * t.2.1 by omega) _ to (Nat.le_refl _) (by omega) h2
    have h5:=(legOf_ok hd (show 0 < to by omega) h2).2.1
    rw [pcsL,List.length_append,List.length_cons]
    omega
theorem pcsS_few {l:List Tb} {p:Pth} (hf:fitsS l p = 0):(pcsS l p).length ≤ 160:=by
  obtain ⟨h1,h2,h3⟩:=fitsS_ok hf
  obtain ⟨_,h6,h4,h5⟩:=checkT_ok h1
  have hk:=knots_length p.1 p.2
  have hp:=checkS_len h2
  unfold pcsS
  rw [if_pos hf]
  have:=pcsL_few (fits_down hf) (by omega) l h4 0 (sumT l) rfl h3
  omega
theorem pc_ok {l:List Tb} {p:Pth} {c:Cs} (hc:CaseOk l c) {b:Int} {q:Pc} (hl:legOk (pcV p q)) (ht:Fair (pcT l q)) (hm:pcT l q ∈ l) (hw:0 < q.2.2.2 - q.2.2.1 ∧ q.2.2.2 - q.2.2.1 ≤ 1048576):PcOk l p c q:=by
  have h1:=hc.wet _ hm
  have h2:=(ht.wet hc.mud.1 hc.mud.2).2
  have h3:=mul_rng (a:=wetS (pcT l q) c.2.1) (b:=q.2.2.2 - q.2.2.1) (A:=4000000) (B:=1048576) (by omega) (by omega) (by omega) hw.2
  have h4:1 * 1 ≤ wetS (pcT l q) c.2.1 * (q.2.2.2 - q.2.2.1):=Int.mul_le_mul (by omega) (by omega) (by decide) (by omega)
  exact ⟨ht,by show 0 < wetS (pcT l q) c.2.1 * (q.2.2.2 - q.2.2.1); omega,by show wetS (pcT l q) c.2.1 * (q.2.2.2 - q.2.2.1) ≤ _; omega,hl⟩
def AllB (R:Hg → Hg → Prop) (a b:List Hg):Prop:=a.length = b.length ∧ ∀ i:Nat,i < a.length → R (a.getD i (0,(0,0),(0,0))) (b.getD i (0,(0,0),(0,0)))
theorem AllB.nil {R:Hg → Hg → Prop}:AllB R [] []:=⟨rfl,fun i h => (by cases h)⟩
theorem AllB.cons {R:Hg → Hg → Prop} {x y:Hg} {a b:List Hg} (h:R x y) (hs:AllB R a b):AllB R (x :: a) (y :: b):=by
  refine ⟨by rw [List.length_cons,List.length_cons,hs.1],fun i hi => ?_⟩
  cases i with
  | zero => exact h
  | succ i =>
    rw [List.getD_cons_succ,List.getD_cons_succ]
    exact hs.2 i (by simpa using hi)
theorem loads_err {l:List Tb} {p:Pth} {c:Cs} (h:(loadsS l p c).2.2 ≠ 0):(loadsS l p c).1 = []:=by
  unfold loadsS at *
  split
  · rfl
  split
  · rfl
  split
  · rename_i h1 h2 h3
    rw [if_neg h1,if_neg h2,if_pos h3] at h
    exact absurd rfl h
  · rfl
end
end Go.MP
