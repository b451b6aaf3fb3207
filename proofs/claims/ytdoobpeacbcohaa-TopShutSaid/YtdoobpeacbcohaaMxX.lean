/- Rigs: what a tick does, place by place. -/
import Derived.Test.YtdoobpeacbcohaaMxV
namespace Go.MR
open Go Go.Sx Go.Proofs
set_option linter.unusedVariables false
set_option linter.unusedSimpArgs false
noncomputable section
theorem ixS_neg {α:Type} {p:α → Bool} {l:List α}:decide (ixS p l < 0) = true ↔ ∀ x ∈ l,p x = false:=by
  rw [decide_eq_true_eq]
  unfold ixS
  cases h:l.any p with
  | true =>
    rw [if_pos rfl]
    constructor
    · intro h1; omega
    · intro h1
      rw [List.any_eq_true] at h
      obtain ⟨x,hx,hp⟩:=h
      rw [h1 x hx] at hp; cases hp
  | false =>
    rw [if_neg (by simp)]
    constructor
    · intro _ x hx
      cases e:p x with
      | false => rfl
      | true => rw [List.any_eq_true.2 ⟨x,hx,e⟩] at h; cases h
    · intro _; decide
theorem ixS_m1 {α:Type} {p:α → Bool} {l:List α} (h:decide (ixS p l < 0) = true):ixS p l = -1:=by
  rw [decide_eq_true_eq] at h
  unfold ixS at h ⊢
  split
  · rename_i c; rw [if_pos c] at h; omega
  · rfl
def banP (s m:List Int) (b:Ban):Bool:=meetS (s.getD b.1.toNat 0,s.getD b.1.toNat 0 + m.getD b.1.toNat 0) b.2.1 b.2.2.1 && meetS (s.getD b.2.2.2.1.toNat 0,s.getD b.2.2.2.1.toNat 0 + m.getD b.2.2.2.1.toNat 0) b.2.2.2.2.1 b.2.2.2.2.2
def stP (s:List Int) (b:Ban):Bool:=wi (s.getD b.1.toNat 0) b.2.1 b.2.2.1 && wi (s.getD b.2.2.2.1.toNat 0) b.2.2.2.2.1 b.2.2.2.2.2
theorem VS.get {ps s:List Int} (h:VS ps s) {i:Nat} (hi:i < ps.length):0 ≤ s.getD i 0 ∧ s.getD i 0 < ps.getD i 0:=(inR_iff h.sl).1 h.si i (by rw [h.sl]; exact hi)
theorem VS.of {ps s:List Int} (hl:s.length = ps.length) (h:∀ i:Nat,i < ps.length → 0 ≤ s.getD i 0 ∧ s.getD i 0 < ps.getD i 0):VS ps s:=⟨hl,(inR_iff hl).2 fun i hi => h i (by rw [← hl]; exact hi)⟩
theorem addW {ps s m:List Int} (hb:ps.any badP = false) (hs:VS ps s) (hm:isM m) {i:Nat} (hi:i < ps.length):IntKind.i64.wrap (s.getD i 0 + m.getD i 0) = s.getD i 0 + m.getD i 0:=by
  have h1:=hs.get hi
  have h2:=place_ne hb hi
  have h3:=getD_is hm i
  exact W_id (by omega) (by omega)
theorem stP_eq {ps s:List Int} {b:Ban} (hs:VS ps s) (hb:okB ps.length b):banS (stillS s) b = stP s b:=by
  obtain ⟨h1,h2,h3,h4⟩:=hb
  have sl:=hs.sl
  unfold banS stP
  rw [getD_still (by omega),getD_still (by omega)]
  unfold meetS
  rw [Bool.or_self,Bool.or_self]
theorem banP_eq {ps s m:List Int} {b:Ban} (hp:ps.any badP = false) (hs:VS ps s) (hm:isM m) (hl:m.length = ps.length) (hb:okB ps.length b):banS (wayL s m) b = banP s m b:=by
  obtain ⟨h1,h2,h3,h4⟩:=hb
  have sl:=hs.sl
  unfold banS banP
  rw [(getD_wayL (s:=s) (m:=m) (by omega) (by omega)).1,(getD_wayL (s:=s) (m:=m) (by omega) (by omega)).1,addW hp hs hm (i:=b.1.toNat) (by omega),addW hp hs hm (i:=b.2.2.2.1.toNat) (by omega)]
theorem safe_iff {ps:List Int} {bs:List Ban} {s:List Int} (hs:VS ps s) (hb:∀ b ∈ bs,okB ps.length b):safeS ps bs s = true ↔ ∀ b ∈ bs,stP s b = false:=by
  unfold safeS
  rw [ixS_neg]
  exact ⟨fun h b hb' => by rw [← stP_eq hs (hb b hb')]; exact h b hb',fun h b hb' => by rw [stP_eq hs (hb b hb')]; exact h b hb'⟩
theorem okM_iff {ps:List Int} {bs:List Ban} {s m:List Int} (hp:ps.any badP = false) (hs:VS ps s) (hm:isM m) (hl:m.length = ps.length) (hb:∀ b ∈ bs,okB ps.length b) :
    okM ps bs s m = true ↔ (∀ i:Nat,i < ps.length → 0 ≤ s.getD i 0 + m.getD i 0 ∧ s.getD i 0 + m.getD i 0 < ps.getD i 0) ∧ ∀ b ∈ bs,banP s m b = false:=by
  have sl:=hs.sl
  have hw:wayOk s m ps = true ↔ ∀ i:Nat,i < ps.length → 0 ≤ s.getD i 0 + m.getD i 0 ∧ s.getD i 0 + m.getD i 0 < ps.getD i 0:=by
    rw [← inR_moved hp hs.sl hl,inR_iff (by rw [movedS_len (by omega),sl]),movedS_len (by omega),sl]
    constructor
    · intro h i hi
      have:=h i hi
      rw [(getD_wayL (s:=s) (m:=m) (by omega) (by omega)).2,addW hp hs hm hi] at this
      exact this
    · intro h i hi
      rw [(getD_wayL (s:=s) (m:=m) (by omega) (by omega)).2,addW hp hs hm hi]
      exact h i hi
  unfold okM waysS
  by_cases c:wayOk s m ps = true
  · rw [if_pos c,Bool.true_and,ixS_neg]
    exact ⟨fun h => ⟨hw.1 c,fun b hb' => by rw [← banP_eq hp hs hm hl (hb b hb')]; exact h b hb'⟩,fun h b hb' => by rw [banP_eq hp hs hm hl (hb b hb')]; exact h.2 b hb'⟩
  · rw [if_neg c,Bool.false_and]
    constructor
    · intro h; cases h
    · intro h; exact absurd (hw.2 h.1) c
theorem allowS_eq {r:Rig} {s m:List Int} (h:stateS r s = 0) (hl:m.length = r.1.length) (hm:isM m) (ho:okM r.1 r.2 s m = true):allowS r s m = (true,-1):=by
  unfold okM at ho
  rw [Bool.and_eq_true] at ho
  unfold allowS
  rw [if_neg (by rw [h,moveS_of hl hm]; simp),if_neg (by rw [ho.1]; simp),ho.2,ixS_m1 ho.2]
structure Sf (r:Rig) (s:List Int):Prop where
  ck:checkS r = 0
  vs:VS r.1 s
  sf:safeS r.1 r.2 s = true
theorem Sf.state {r:Rig} {s:List Int} (h:Sf r s):stateS r s = 0:=by rw [state_of' h.ck h.vs,h.sf]; rfl
where
  state_of' {r:Rig} (hc:checkS r = 0) {s:List Int} (hs:VS r.1 s):stateS r s = if safeS r.1 r.2 s = true then 0 else 12:=by
    unfold stateS safeS
    rw [hc,if_neg (by simp),if_neg (by rw [hs.sl]; simp),if_neg (by rw [hs.si]; simp)]
    by_cases c:ixS (banS (stillS s)) r.2 < 0
    · rw [decide_eq_true c,if_neg (by omega),if_pos rfl]
    · rw [decide_eq_false c,if_pos (by omega),if_neg (by simp)]
theorem Sf.pb {r:Rig} {s:List Int} (h:Sf r s):r.1.any badP = false:=(checkS_ok h.ck).2.2.1
theorem Sf.ob {r:Rig} {s:List Int} (h:Sf r s):∀ b ∈ r.2,okB r.1.length b:=banEs_all (checkS_ok h.ck).2.2.2.2
theorem after_ok {r:Rig} {s m t:List Int} (h:Sf r s) (hl:m.length = r.1.length) (hm:isM m) (ho:okM r.1 r.2 s m = true) (ht:t.length = r.1.length)
    (hp:∀ i:Nat,i < r.1.length → t.getD i 0 = s.getD i 0 + m.getD i 0 ∨ t.getD i 0 = s.getD i 0):Sf r t:=by
  obtain ⟨o1,o2⟩:=(okM_iff h.pb h.vs hm hl h.ob).1 ho
  have hv:VS r.1 t:=VS.of ht fun i hi => by
    rcases hp i hi with e | e
    · rw [e]; exact o1 i hi
    · rw [e]; exact h.vs.get hi
  refine ⟨h.ck,hv,(safe_iff hv h.ob).2 fun b hb => ?_⟩
  have hq:=o2 b hb
  obtain ⟨h1,h2,h3,h4⟩:=h.ob b hb
  have e1:=hp b.1.toNat (by omega)
  have e2:=hp b.2.2.2.1.toNat (by omega)
  unfold banP meetS at hq
  unfold stP
  dsimp only at hq
  revert hq
  rcases e1 with e1 | e1 <;> rcases e2 with e2 | e2 <;> rw [e1,e2] <;>
  · generalize wi (s.getD b.1.toNat 0) b.2.1 b.2.2.1 = a1
    generalize wi (s.getD b.2.2.2.1.toNat 0) b.2.2.2.2.1 b.2.2.2.2.2 = a2
    generalize wi (s.getD b.1.toNat 0 + m.getD b.1.toNat 0) b.2.1 b.2.2.1 = a3
    generalize wi (s.getD b.2.2.2.1.toNat 0 + m.getD b.2.2.2.1.toNat 0) b.2.2.2.2.1 b.2.2.2.2.2 = a4
    cases a1 <;> cases a2 <;> cases a3 <;> cases a4 <;> decide
end
end Go.MR
