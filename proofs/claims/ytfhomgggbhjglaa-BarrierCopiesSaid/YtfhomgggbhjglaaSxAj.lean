/- Data in which a number is written over: it reads as other data of the same shape. -/
import Derived.Test.YtfhomgggbhjglaaFw4
namespace Go.Sx
open Go.RowKit
def Ty.plain : Ty → Bool
  | .pair a b => a.plain && b.plain
  | .sl e => e.plain
  | .arr _ _ => false
  | _ => true
def SameSh : (t : Ty) → t.den → t.den → Prop
  | .pair a b,d,d' => SameSh a d.1 d'.1 ∧ SameSh b d.2 d'.2
  | .sl e,l,l' => (show List e.den from l').length = (show List e.den from l).length ∧ ∀ (i : Nat) (x x' : e.den),(show List e.den from l)[i]? = some x → (show List e.den from l')[i]? = some x' → SameSh e x x'
  | .int _,_,_ => True
  | .bool,d,d' => d' = d
  | .str,d,d' => d' = d
  | .unit,_,_ => True
  | .arr _ _,d,d' => d' = d
theorem SameSh.refl : ∀ (t : Ty) (d : t.den),SameSh t d d
  | .pair a b,d => ⟨SameSh.refl a d.1,SameSh.refl b d.2⟩
  | .sl e,l => ⟨rfl,fun i x x' h h' => by
    have : x = x':=Option.some.inj (h.symm.trans h')
    subst this
    exact SameSh.refl e x⟩
  | .int _,_ => trivial
  | .bool,_ => rfl
  | .str,_ => rfl
  | .unit,_ => trivial
  | .arr _ _,_ => rfl
theorem SameSh.trans : ∀ {t : Ty} {a b c : t.den},SameSh t a b → SameSh t b c → SameSh t a c
  | .pair x y,_,_,_,h,k => ⟨SameSh.trans h.1 k.1,SameSh.trans h.2 k.2⟩
  | .sl e,a,b,c,h,k => ⟨k.1.trans h.1,fun i x x' hx hx' => by
    have hi : i < (show List e.den from b).length:=by
      rw [h.1]; exact (List.getElem?_eq_some_iff.1 hx).1
    obtain ⟨y,hy⟩ : ∃ y,(show List e.den from b)[i]? = some y:=⟨_,List.getElem?_eq_getElem hi⟩
    exact SameSh.trans (h.2 i x y hx hy) (k.2 i y x' hy hx')⟩
  | .int _,_,_,_,_,_ => trivial
  | .bool,_,_,_,h,k => Eq.trans k h
  | .str,_,_,_,h,k => Eq.trans k h
  | .unit,_,_,_,_,_ => trivial
  | .arr _ _,_,_,_,h,k => Eq.trans k h
def simV (v v' : Value) : Prop:=v' = v ∨ ∃ k n n',v = .int k n ∧ v' = .int k n'
theorem simV.refl (v : Value) : simV v v:=.inl rfl
theorem simV.int {k : IntKind} {n : Int} {v' : Value} (h : simV (.int k n) v') : ∃ n',v' = .int k n':=by
  rcases h with rfl | ⟨k',a,b,h1,rfl⟩
  · exact ⟨n,rfl⟩
  · cases h1; exact ⟨b,rfl⟩
theorem simV.same {v v' : Value} (h : simV v v') (hv : ∀ k n,v ≠ .int k n) : v' = v:=by
  rcases h with h | ⟨k,a,b,h1,_⟩
  · exact h
  · exact absurd h1 (hv k a)
structure SimW (I : Nat → Prop) (w w' : World) : Prop where
  cell : ∀ b,I b → ∀ o v,w.cell? ⟨b,o,none⟩ = some v → ∃ v',w'.cell? ⟨b,o,none⟩ = some v' ∧ simV v v'
  frozen : ∀ b,I b → ∀ o,w.frozen? ⟨b,o,none⟩ = false → w'.frozen? ⟨b,o,none⟩ = false
theorem list_pick {α β : Type} {R : Nat → α → β → Prop} : ∀ (l : List α) (o : Nat),(∀ i x,l[i]? = some x → ∃ d,R (o + i) x d) → ∃ ds : List β,ds.length = l.length ∧ ∀ i x d,l[i]? = some x → ds[i]? = some d → R (o + i) x d:=by
  intro l o h
  obtain ⟨ds,h1,h2⟩:=list_choose l o h
  refine ⟨ds,h1,fun i x d hx hd => ?_⟩
  obtain ⟨x',hx',hR⟩:=h2 i d hd
  have : x' = x:=Option.some.inj (hx'.symm.trans hx)
  subst this
  exact hR
theorem RowAt.sim {I : Nat → Prop} {w w' : World} (hw : SimW I w w') {b o : Nat} (hb : I b) {cs : List Value} (h : RowAt w b o cs) : ∃ cs' : List Value,cs'.length = cs.length ∧ (∀ (j : Nat) (v v' : Value),cs[j]? = some v → cs'[j]? = some v' → simV v v') ∧ RowAt w' b o cs':=by
  obtain ⟨cs',h1,h2⟩:=list_pick (R:=fun j v v' => simV v v' ∧ w'.cell? ⟨b,o + j,none⟩ = some v') cs 0 fun j v hv => by
    obtain ⟨v',a1,a2⟩:=hw.cell b hb _ v (h j v hv).1
    exact ⟨v',a2,by rw [Nat.zero_add]; exact a1⟩
  refine ⟨cs',h1,fun j v v' hv hv' => (h2 j v v' hv hv').1,fun j v' hv' => ?_⟩
  have hj : j < cs.length:=by rw [← h1]; exact (List.getElem?_eq_some_iff.1 hv').1
  obtain ⟨v,hv⟩ : ∃ v,cs[j]? = some v:=⟨_,List.getElem?_eq_getElem hj⟩
  have:=(h2 j v v' hv hv').2
  rw [Nat.zero_add] at this
  exact ⟨this,hw.frozen b hb _ (h j v hv).2⟩
theorem DRep.sim {I : Nat → Prop} {w w' : World} (hw : SimW I w w') : ∀ (t : Ty) (d : t.den) (vs vs' : List Value),t.plain = true → DRep I w t d vs → vs'.length = vs.length → (∀ (j : Nat) (v v' : Value),vs[j]? = some v → vs'[j]? = some v' → simV v v') → ∃ d',SameSh t d d' ∧ DRep I w' t d' vs'
  | .int k,n,vs,vs',_,h,hl,hs => by
    have h : vs = [.int k n]:=h
    subst h
    match vs',hl with
    | [v'],_ =>
      obtain ⟨n',rfl⟩:=(hs 0 _ v' rfl rfl).int
      exact ⟨n',trivial,rfl⟩
  | .bool,n,vs,vs',_,h,hl,hs => by
    have h : vs = [.bool n]:=h
    subst h
    match vs',hl with
    | [v'],_ => exact ⟨n,rfl,by rw [(hs 0 _ v' rfl rfl).same fun _ _ h => by cases h]; rfl⟩
  | .str,n,vs,vs',_,h,hl,hs => by
    have h : vs = [.string n]:=h
    subst h
    match vs',hl with
    | [v'],_ => exact ⟨n,rfl,by rw [(hs 0 _ v' rfl rfl).same fun _ _ h => by cases h]; rfl⟩
  | .unit,n,vs,vs',_,h,hl,_ => by
    have h : vs = []:=h
    subst h
    exact ⟨(),trivial,List.eq_nil_of_length_eq_zero hl⟩
  | .pair a b,d,vs,vs',hp,h,hl,hs => by
    simp only [Ty.plain,Bool.and_eq_true] at hp
    obtain ⟨x,y,rfl,h1,h2⟩:=h
    rw [List.length_append] at hl
    obtain ⟨d1,s1,r1⟩:=DRep.sim hw a d.1 x (vs'.take x.length) hp.1 h1 (by rw [List.length_take]; omega) fun j v v' hv hv' => by
      have hj:=(List.getElem?_eq_some_iff.1 hv).1
      rw [List.getElem?_take,if_pos hj] at hv'
      exact hs j v v' (by rw [List.getElem?_append_left hj]; exact hv) hv'
    obtain ⟨d2,s2,r2⟩:=DRep.sim hw b d.2 y (vs'.drop x.length) hp.2 h2 (by rw [List.length_drop]; omega) fun j v v' hv hv' => by
      rw [List.getElem?_drop] at hv'
      exact hs (x.length + j) v v' (by rw [List.getElem?_append_right (by omega),Nat.add_sub_cancel_left]; exact hv) hv'
    exact ⟨(d1,d2),⟨s1,s2⟩,_,_,(List.take_append_drop _ _).symm,r1,r2⟩
  | .sl e,l,vs,vs',hp,h,hl,hs => by
    obtain ⟨v,rfl,p,cap,rfl,hc,h⟩:=h
    match vs',hl with
    | [v'],_ =>
      have ev:=(hs 0 _ v' rfl rfl).same fun _ _ h => by cases h
      subst ev
      rcases h with h | ⟨b,o,hpb,hb,h⟩
      · exact ⟨l,SameSh.refl (.sl e) l,_,rfl,p,cap,rfl,hc,.inl h⟩
      · obtain ⟨l',h1,h2⟩:=list_pick (R:=fun i (x x' : e.den) => SameSh e x x' ∧ ∃ cs,RowAt w' b (o + i * e.size) cs ∧ DRep I w' e x' cs) (show List e.den from l) 0 fun i x hx => by
          obtain ⟨cs,c1,c2⟩:=h i x hx
          obtain ⟨cs',e1,e2,e3⟩:=c1.sim hw hb
          obtain ⟨x',g1,g2⟩:=DRep.sim hw e x cs cs' hp c2 e1 e2
          exact ⟨x',g1,cs',by rw [Nat.zero_add]; exact e3,g2⟩
        have h1' : l'.length = (show List e.den from l).length:=h1
        refine ⟨l',⟨h1,fun i x x' hx hx' => (h2 i x x' hx hx').1⟩,_,rfl,p,cap,?_,?_,.inr ⟨b,o,hpb,hb,fun i x' hx' => ?_⟩⟩
        · rw [h1']
        · rw [h1']; exact hc
        · have hi : i < (show List e.den from l).length:=by rw [← h1']; exact (List.getElem?_eq_some_iff.1 hx').1
          obtain ⟨x,hx⟩ : ∃ x,(show List e.den from l)[i]? = some x:=⟨_,List.getElem?_eq_getElem hi⟩
          have:=(h2 i x x' hx hx').2
          rwa [Nat.zero_add] at this
  | .arr _ _,_,_,_,hp,_,_,_ => by cases hp
theorem simW_set {w : World} {g o : Nat} {cur : Array Value} {ty : TypeId} {mk : Nat × Nat} {k : IntKind} {n n' : Int} (hg : w.heap[g]? = some (.cells cur ty mk)) (ho : cur[o]? = some (.int k n)) (I : Nat → Prop) :
    SimW I w (w.setRow g (cur.setIfInBounds o (.int k n'))):=by
  have hother : ∀ b,b ≠ g → (w.setRow g (cur.setIfInBounds o (.int k n'))).heap[b]? = w.heap[b]?:=fun b hb => setRow_other w g b _ hb
  have hself:=setRow_heap w g cur (cur.setIfInBounds o (.int k n')) ty mk hg
  constructor
  · intro b _ x v hv
    by_cases hb : b = g
    · subst hb
      simp only [World.cell?,hg,Option.isSome_none,Bool.false_eq_true,if_false] at hv
      simp only [World.cell?,hself,Option.isSome_none,Bool.false_eq_true,if_false]
      by_cases hx : x = o
      · subst hx
        rw [ho] at hv
        cases hv
        have hlt:=(Array.getElem?_eq_some_iff.1 ho).1
        exact ⟨.int k n',by simp [hlt],.inr ⟨k,n,n',rfl,rfl⟩⟩
      · exact ⟨v,by rw [Array.getElem?_setIfInBounds_ne (Ne.symm hx)]; exact hv,.inl rfl⟩
    · rw [cell_of_heap (hother b hb)]
      exact ⟨v,hv,.inl rfl⟩
  · intro b _ x hx
    by_cases hb : b = g
    · subst hb
      simp only [World.frozen?,hg] at hx
      simp only [World.frozen?,hself]
      exact hx
    · rw [frozen_of_heap (hother b hb)]
      exact hx
theorem cell_some {w : World} {b o : Nat} {v : Value} (h : w.cell? ⟨b,o,none⟩ = some v) : ∃ cur ty mk,w.heap[b]? = some (.cells cur ty mk) ∧ cur[o]? = some v:=by
  unfold World.cell? at h
  split at h
  · rename_i c t fr hb
    exact ⟨c,t,fr,hb,by simpa using h⟩
  · cases h
theorem store_num {P : Program} {o : Oper} {t : TypeId} {x y : Operand} {ρv : Operand → Value} {w : World} {E : En} {U : Nat → Bool} {k : IntKind} {n n' : Int} (ho : o.op = .store t x y) (ht : szOf P t = some 1)
    (hx : Rep E U w (.adr (.int k) n) (ρv x)) (hy : Rep E U w (.int k n') (ρv y)) :
    ∃ g off cur ty mk,E.I g ∧ w.heap[g]? = some (.cells cur ty mk) ∧ cur[off]? = some (.int k n) ∧ (execOp ρv o).run P w = .ok .skip (w.setRow g (cur.setIfInBounds off (.int k n'))):=by
  unfold Rep at hx hy
  obtain ⟨g,off,cs,hp,hI,hrow,hd⟩:=hx
  have hd : cs = [.int k n]:=hd
  subst hd
  obtain ⟨h1,h2⟩:=hrow 0 _ rfl
  rw [Nat.add_zero] at h1 h2
  obtain ⟨cur,ty,mk,hg,hc⟩:=cell_some h1
  refine ⟨g,off,cur,ty,mk,hI,hg,hc,?_⟩
  have hst : (storeVar t ⟨g,off,none⟩ (.int k n')).run P w = .ok () (w.setRow g (cur.setIfInBounds off (.int k n'))):=by
    have hone : (Value.int k n').cells.toList = [.int k n']:=rfl
    have h3 : (store ((⟨g,off,none⟩ : Addr).add 0) (.int k n')).run P w = .ok () (w.setRow g (cur.setIfInBounds off (.int k n'))):=by
      rw [show (⟨g,off,none⟩ : Addr).add 0 = ⟨g,off,none⟩ by rw [add_none,Nat.add_zero],run_store P w _ _ _ (by simp [Value.oneCell']),h1]
      simp [h2,setCell_eq_setRow w g off cur ty mk _ hg]
    have h4 : (Value.int k n').cells.size = 1:=rfl
    simp [storeVar,run_sizeOf ht,h4,hone,storeCells,h3]
  unfold execOp
  simp only [ho,hp,hy]
  simp [Instr.storeAt,Instr.sureAddr,hst]
end Go.Sx
