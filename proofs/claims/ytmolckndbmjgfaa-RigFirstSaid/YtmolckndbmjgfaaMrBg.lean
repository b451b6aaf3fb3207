/- The plain law of RigFirst. -/
import Derived.Test.YtmolckndbmjgfaaMrBe
import Derived.Test.YtmolckndbmjgfaaMrX
namespace Go.MR
open Go Go.Sx Go.Proofs
set_option linter.unusedVariables false
set_option linter.unusedSimpArgs false
noncomputable section
abbrev mcQ (q : List Req) (i : Int) : Int := (q.getD i.toNat zReq).1
abbrev mvQ (q : List Req) (i : Int) : Int := (q.getD i.toNat zReq).2.1
def qOk (n : Nat) (q : List Req) : Prop := ∀ x ∈ q, (0 ≤ x.1 ∧ x.1 < n) ∧ (x.2.1 = -1 ∨ x.2.1 = 0 ∨ x.2.1 = 1) ∧ 0 ≤ x.2.2 ∧ x.2.2 ≤ 99
theorem qOk_at {n : Nat} {q : List Req} (h : qOk n q) {i : Int} (h0 : 0 ≤ i) (h1 : i < q.length) : (0 ≤ mcQ q i ∧ mcQ q i < n) ∧ (mvQ q i = -1 ∨ mvQ q i = 0 ∨ mvQ q i = 1) := by
  have := h _ (getD_mem (d := zReq) (show i.toNat < q.length by omega))
  exact ⟨this.1, this.2.1⟩
theorem getD_setF {α : Type} (l : List α) (i j : Nat) (v d : α) (h : i < l.length) : (l.set i v).getD j d = if i = j then v else l.getD j d := by
  rw [List.getD_eq_getElem?_getD, List.getElem?_set, List.getD_eq_getElem?_getD]
  by_cases c : i = j
  · rw [if_pos c, if_pos h, if_pos c]; rfl
  · rw [if_neg c, if_neg c]
theorem isM_set {m : List Int} (h : isM m) {i : Nat} {v : Int} (hv : v = -1 ∨ v = 0 ∨ v = 1) : isM (m.set i v) := fun x hx => by
  rcases List.mem_or_eq_of_mem_set hx with h' | h'
  · exact h x h'
  · rw [h']; exact hv
theorem allow_is {r : Rig} {s m : List Int} (hs : Sf r s) (hl : m.length = s.length) (hm : isM m) : (allowS r s m).1 = okM r.1 r.2 s m := by
  unfold allowS okM
  rw [if_neg (by rw [hs.state, moveS_of (hl.trans hs.vs.sl) hm]; simp)]
  cases e : (waysS s m r.1).2 with
  | false => rw [if_pos rfl, Bool.false_and]
  | true => rw [if_neg (by simp), Bool.true_and]
structure MI (r : Rig) (s : List Int) (q : List Req) (o m : List Int) (g : List Bool) (t : List Int) : Prop where
  lm : m.length = s.length
  lg : g.length = s.length
  im : isM m
  ok : okM r.1 r.2 s m = true
  z : ∀ j : Nat, g.getD j false = false → m.getD j 0 = 0
  tk : ∀ i ∈ t, i ∈ o ∧ g.getD (mcQ q i).toNat false = true ∧ m.getD (mcQ q i).toNat 0 = mvQ q i
  gt : ∀ j : Nat, g.getD j false = true → ∃ i ∈ t, (mcQ q i).toNat = j
  ij : ∀ a ∈ t, ∀ b ∈ t, mcQ q a = mcQ q b → a = b
  rf : ∀ i ∈ o, i ∉ t → g.getD (mcQ q i).toNat false = false → okM r.1 r.2 s (m.set (mcQ q i).toNat (mvQ q i)) = false
theorem MI_go {r : Rig} {s : List Int} {q : List Req} (hs : Sf r s) (hq : qOk s.length q) : ∀ (p o m : List Int) (g : List Bool) (t : List Int), (∀ i ∈ o ++ p, 0 ≤ i ∧ i < q.length) → MI r s q o m g t →
    MI r s q (o ++ p) (mgS r s q p (m, g, t)).1 (mgS r s q p (m, g, t)).2.1 (mgS r s q p (m, g, t)).2.2
  | [], o, m, g, t, _, h => by rw [List.append_nil]; exact h
  | i :: p, o, m, g, t, hp, h => by
    have ho : ∀ x ∈ o, 0 ≤ x ∧ x < q.length := fun x hx => hp x (List.mem_append_left _ hx)
    have hi := hp i (List.mem_append_right _ (List.mem_cons_self ..))
    obtain ⟨hc, hv⟩ := qOk_at hq hi.1 hi.2
    have lm := h.lm
    have lg := h.lg
    have hcm : (mcQ q i).toNat < m.length := by omega
    have hcg : (mcQ q i).toNat < g.length := by omega
    have hp' : ∀ x ∈ (o ++ [i]) ++ p, 0 ≤ x ∧ x < q.length := fun x hx => hp x (by rw [List.append_assoc] at hx; exact hx)
    have key : ∀ m' g' t', MI r s q (o ++ [i]) m' g' t' → MI r s q (o ++ i :: p) (mgS r s q p (m', g', t')).1 (mgS r s q p (m', g', t')).2.1 (mgS r s q p (m', g', t')).2.2 := fun m' g' t' h' => by
      have := MI_go hs hq p (o ++ [i]) m' g' t' hp' h'
      rw [List.append_assoc] at this
      exact this
    rw [mgS]
    split
    · rename_i c
      refine key m g t { h with tk := fun x hx => ⟨List.mem_append_left _ (h.tk x hx).1, (h.tk x hx).2⟩, rf := fun x hx hn hg => ?_ }
      rcases List.mem_append.1 hx with hx | hx
      · exact h.rf x hx hn hg
      · rw [List.mem_singleton] at hx
        subst hx
        rw [c] at hg; cases hg
    rename_i c
    have c' : g.getD (mcQ q i).toNat false = false := Bool.eq_false_iff.2 c
    have hm' : isM (m.set (mcQ q i).toNat (mvQ q i)) := isM_set h.im hv
    have ha := allow_is hs (m := m.set (mcQ q i).toNat (mvQ q i)) (by rw [List.length_set]; exact lm) hm'
    split
    · rename_i d
      have d' : okM r.1 r.2 s (m.set (mcQ q i).toNat (mvQ q i)) = true := ha.symm.trans d
      refine key _ _ _ ⟨by rw [List.length_set]; exact lm, by rw [List.length_set]; exact lg, hm', d', fun j hj => ?_, fun x hx => ?_, fun j hj => ?_, fun a ha' b hb he => ?_, fun x hx hn hg => ?_⟩
      · rw [getD_setF _ _ _ _ _ hcg] at hj
        rw [getD_setF _ _ _ _ _ hcm]
        by_cases e : (mcQ q i).toNat = j
        · rw [if_pos e] at hj; cases hj
        · rw [if_neg e] at hj ⊢; exact h.z j hj
      · rw [getD_setF _ _ _ _ _ hcg, getD_setF _ _ _ _ _ hcm]
        rcases List.mem_append.1 hx with hx | hx
        · obtain ⟨t1, t2, t3⟩ := h.tk x hx
          have e : (mcQ q i).toNat ≠ (mcQ q x).toNat := fun e => by rw [← e, c'] at t2; cases t2
          rw [if_neg e, if_neg e]
          exact ⟨List.mem_append_left _ t1, t2, t3⟩
        · rw [List.mem_singleton] at hx
          subst hx
          rw [if_pos rfl, if_pos rfl]
          exact ⟨List.mem_append_right _ (List.mem_singleton.2 rfl), rfl, rfl⟩
      · rw [getD_setF _ _ _ _ _ hcg] at hj
        by_cases e : (mcQ q i).toNat = j
        · exact ⟨i, List.mem_append_right _ (List.mem_singleton.2 rfl), e⟩
        · rw [if_neg e] at hj
          obtain ⟨x, x1, x2⟩ := h.gt j hj
          exact ⟨x, List.mem_append_left _ x1, x2⟩
      · have cross : ∀ x ∈ t, mcQ q x ≠ mcQ q i := fun x hx e => by
          have := (h.tk x hx).2.1
          rw [e, c'] at this; cases this
        rcases List.mem_append.1 ha' with h1 | h1 <;> rcases List.mem_append.1 hb with h2 | h2
        · exact h.ij a h1 b h2 he
        · rw [List.mem_singleton] at h2; subst h2; exact absurd he (cross a h1)
        · rw [List.mem_singleton] at h1; subst h1; exact absurd he.symm (cross b h2)
        · rw [List.mem_singleton] at h1 h2; rw [h1, h2]
      · rw [getD_setF _ _ _ _ _ hcg] at hg
        by_cases e : (mcQ q i).toNat = (mcQ q x).toNat
        · rw [if_pos e] at hg; cases hg
        rw [if_neg e] at hg
        have hxo : x ∈ o := by
          rcases List.mem_append.1 hx with hx | hx
          · exact hx
          · exact absurd (List.mem_append_right _ hx) hn
        have old := h.rf x hxo (fun q => hn (List.mem_append_left _ q)) hg
        have hxr := ho x hxo
        obtain ⟨xc, xv⟩ := qOk_at hq hxr.1 hxr.2
        cases new : okM r.1 r.2 s ((m.set (mcQ q i).toNat (mvQ q i)).set (mcQ q x).toNat (mvQ q x)) with
        | false => rfl
        | true =>
          have hxm : (mcQ q x).toNat < m.length := by omega
          have := part_ok hs (f := m.set (mcQ q x).toNat (mvQ q x)) (by rw [List.length_set, List.length_set]; exact lm.trans hs.vs.sl) (isM_set hm' xv) new (isM_set h.im xv) ⟨by rw [List.length_set, List.length_set, List.length_set], fun j hj => by
            rw [getD_setF _ _ _ _ _ hxm, getD_setF _ _ _ _ _ (by rw [List.length_set]; exact hxm), getD_setF _ _ _ _ _ hcm]
            by_cases e1 : (mcQ q x).toNat = j
            · rw [if_pos e1, if_pos e1]; exact .inl rfl
            · rw [if_neg e1, if_neg e1]
              by_cases e2 : (mcQ q i).toNat = j
              · rw [← e2]; exact .inr (h.z _ c')
              · rw [if_neg e2]; exact .inl rfl⟩
          rw [old] at this; cases this
    · rename_i d
      have d' : okM r.1 r.2 s (m.set (mcQ q i).toNat (mvQ q i)) = false := by
        rw [← ha]
        exact Bool.eq_false_iff.2 d
      have em : m.set (mcQ q i).toNat 0 = m := by
        refine List.ext_getElem (by rw [List.length_set]) fun n h1 h2 => ?_
        rw [List.getElem_set]
        split
        · rename_i e
          have := h.z _ c'
          subst e
          rw [List.getD_eq_getElem?_getD, List.getElem?_eq_getElem h2, Option.getD_some] at this
          exact this.symm
        · rfl
      rw [em]
      refine key m g t { h with tk := fun x hx => ⟨List.mem_append_left _ (h.tk x hx).1, (h.tk x hx).2⟩, rf := fun x hx hn hg => ?_ }
      rcases List.mem_append.1 hx with hx | hx
      · exact h.rf x hx hn hg
      · rw [List.mem_singleton] at hx
        subst hx
        exact d'
def sgS (q : List Req) : List Int → List Int × List Bool → List Int × List Bool
  | [], x => x
  | i :: l, (a, b) => sgS q l (a.set (mcQ q i).toNat (mvQ q i), b.set (mcQ q i).toNat true)
theorem sgS_step {q : List Req} {l : List Int} {i : Int} {a : List Int} {b : List Bool} (h0 : 0 ≤ i) (h : i < l.length) : sgS q (l.drop i.toNat) (a, b) = sgS q (l.drop (i + 1).toNat) (a.set (mcQ q (l.getD i.toNat 0)).toNat (mvQ q (l.getD i.toNat 0)), b.set (mcQ q (l.getD i.toNat 0)).toNat true) := by
  rw [drop_step (0 : Int) h0 h, sgS]
theorem sgS_nil (q : List Req) (x : List Int × List Bool) : sgS q [] x = x := rfl
theorem sgS_at {q : List Req} (j : Nat) : ∀ (l a : List Int) (b : List Bool), (∀ i ∈ l, (mcQ q i).toNat < a.length ∧ (mcQ q i).toNat < b.length) →
    (sgS q l (a, b)).1.length = a.length ∧ (sgS q l (a, b)).2.length = b.length ∧
    ((∃ i ∈ l, (mcQ q i).toNat = j ∧ (sgS q l (a, b)).1.getD j 0 = mvQ q i ∧ (sgS q l (a, b)).2.getD j false = true) ∨
      ((∀ i ∈ l, (mcQ q i).toNat ≠ j) ∧ (sgS q l (a, b)).1.getD j 0 = a.getD j 0 ∧ (sgS q l (a, b)).2.getD j false = b.getD j false))
  | [], a, b, _ => ⟨rfl, rfl, .inr ⟨fun i hi => (by cases hi), rfl, rfl⟩⟩
  | i :: l, a, b, h => by
    rw [sgS]
    have hi := h i (List.mem_cons_self ..)
    obtain ⟨l1, l2, h3⟩ := sgS_at (q := q) j l (a.set (mcQ q i).toNat (mvQ q i)) (b.set (mcQ q i).toNat true) (fun x hx => by
      rw [List.length_set, List.length_set]; exact h x (List.mem_cons_of_mem _ hx))
    rw [List.length_set] at l1 l2
    refine ⟨l1, l2, ?_⟩
    rcases h3 with ⟨x, x1, x2⟩ | ⟨x1, x2, x3⟩
    · exact .inl ⟨x, List.mem_cons_of_mem _ x1, x2⟩
    · rw [getD_setF _ _ _ _ _ hi.1] at x2
      rw [getD_setF _ _ _ _ _ hi.2] at x3
      by_cases e : (mcQ q i).toNat = j
      · rw [if_pos e] at x2 x3
        exact .inl ⟨i, List.mem_cons_self .., e, x2, x3⟩
      · rw [if_neg e] at x2 x3
        exact .inr ⟨fun y hy => by
          rcases List.mem_cons.1 hy with rfl | hy
          · exact e
          · exact x1 y hy, x2, x3⟩
structure FL (r : Rig) (s : List Int) (q : List Req) (m T : List Int) : Prop where
  lm : m.length = s.length
  im : isM m
  al : (allowS r s m).1 = true
  tl : (T.length : Int) ≤ 12
  st : T.Pairwise (· < ·)
  rg : ∀ i ∈ T, 0 ≤ i ∧ i < q.length
  ds : T.Pairwise fun a b => mcQ q a ≠ mcQ q b
  sg : (sgS q T (List.replicate s.length 0, List.replicate s.length false)).1 = m
  rf : ∀ i : Int, 0 ≤ i → i < q.length → i ∉ T → (sgS q T (List.replicate s.length 0, List.replicate s.length false)).2.getD (mcQ q i).toNat false = false → (allowS r s (m.set (mcQ q i).toNat (mvQ q i))).1 = false
  fr : ∀ f : Int, 0 ≤ f → f < q.length → (∀ j : Int, 0 ≤ j → j < q.length → j ≠ f → lexR q f j) → (allowS r s ((List.replicate s.length 0).set (mcQ q f).toNat (mvQ q f))).1 = true → f ∈ T
theorem rep_get {α : Type} (n : Nat) (d : α) (j : Nat) : (List.replicate n d).getD j d = d := by
  rw [List.getD_eq_getElem?_getD, List.getElem?_replicate]
  split <;> rfl
theorem mrgE_zero {n : Nat} : ∀ {q : List Req}, qOk n q → mrgE n q = 0
  | [], _ => rfl
  | x :: q, h => by
    obtain ⟨h1, h2, h3⟩ := h x (List.mem_cons_self ..)
    rw [mrgE, if_neg (by unfold wi; rw [decide_eq_true (by omega), decide_eq_true (by omega)]; simp), if_neg (by unfold wi; rw [decide_eq_true (by omega), decide_eq_true (by omega), decide_eq_true (by omega), decide_eq_true (by omega)]; simp)]
    exact mrgE_zero (fun y hy => h y (List.mem_cons_of_mem _ hy))
theorem first_law {r : Rig} {s : List Int} {q : List Req} (hs : Sf r s) (hq : qOk s.length q) (hl : q.length ≤ 12) : ∃ m T, mrgS r s q = (m, T, 0) ∧ FL r s q m T := by
  have hE : mrgErr r s q = 0 := by unfold mrgErr; rw [if_neg (by rw [hs.state]; simp), if_neg (by omega), mrgE_zero hq]
  have hr := rkOk_of (mrgE_zero hq)
  obtain ⟨o1, o2⟩ := ordS_ok hr
  obtain ⟨z1, z2, z3⟩ := zero_ok hs
  have h0 : MI r s q [] (List.replicate s.length 0) (List.replicate s.length false) [] :=
    ⟨List.length_replicate, List.length_replicate, z1, z3, fun j _ => rep_get _ _ _, fun i hi => (by cases hi), fun j hj => (by rw [rep_get] at hj; cases hj), fun a ha => (by cases ha), fun i hi => (by cases hi)⟩
  have hM := MI_go hs hq (ordS q) [] _ _ _ (fun i hi => (o2 i).1 hi) h0
  rw [List.nil_append] at hM
  obtain ⟨t1, t2⟩ := taken_ok (r := r) (s := s) hr
  have tl := mgS_len (r := r) (s := s) (q := q) (ordS q) (List.replicate s.length 0, List.replicate s.length false, [])
  have ol := ordS_len q
  have hsub := mgS_sub (r := r) (s := s) (q := q) (ordS q) (List.replicate s.length 0, List.replicate s.length false, [])
  refine ⟨(mg0 r s q).1, isO ltI 0 (((mg0 r s q).2.2.length : Int) - 1).toNat 1 (mg0 r s q).2.2, by unfold mrgS; rw [hE, if_neg (by simp)], ?_⟩
  have eT : (isO ltI 0 (((mg0 r s q).2.2.length : Int) - 1).toNat 1 (mg0 r s q).2.2).length ≤ 12 := by
    rw [isO_len]; unfold mg0
    obtain ⟨_, _, h3⟩ := tl
    dsimp only at h3
    rw [List.length_nil] at h3
    omega
  generalize isO ltI 0 (((mg0 r s q).2.2.length : Int) - 1).toNat 1 (mg0 r s q).2.2 = T at *
  have hm0 : mg0 r s q = mgS r s q (ordS q) (List.replicate s.length 0, List.replicate s.length false, []) := rfl
  rw [← hm0] at hM
  obtain ⟨u, a1, a2⟩ := hsub
  have hTr : ∀ i ∈ T, 0 ≤ i ∧ i < q.length := fun i hi => (o2 i).1 ((hM.tk i ((t2 i).1 hi)).1)
  have hsg := fun j => sgS_at (q := q) j T (List.replicate s.length 0) (List.replicate s.length false) (fun i hi => by
    have := qOk_at hq (hTr i hi).1 (hTr i hi).2
    rw [List.length_replicate, List.length_replicate]
    omega)
  have hboth : ∀ j : Nat, (sgS q T (List.replicate s.length 0, List.replicate s.length false)).1.getD j 0 = (mg0 r s q).1.getD j 0 ∧ (sgS q T (List.replicate s.length 0, List.replicate s.length false)).2.getD j false = (mg0 r s q).2.1.getD j false := fun j => by
    rcases (hsg j).2.2 with ⟨i, i1, i2, i3, i4⟩ | ⟨i1, i2, i3⟩
    · obtain ⟨_, b2, b3⟩ := hM.tk i ((t2 i).1 i1)
      rw [i2] at b2 b3
      exact ⟨i3.trans b3.symm, i4.trans b2.symm⟩
    · rw [rep_get] at i2 i3
      cases c : (mg0 r s q).2.1.getD j false with
      | true =>
        obtain ⟨x, x1, x2⟩ := hM.gt j c
        exact absurd x2 (i1 x ((t2 x).2 x1))
      | false => exact ⟨i2.trans (hM.z j c).symm, i3⟩
  refine ⟨hM.lm, hM.im, (allow_is hs hM.lm hM.im).trans hM.ok, by omega, t1, hTr, ?_, ?_, fun i h0 h1 hn hg => ?_, fun f f0 f1 hf ha => ?_⟩
  · refine t1.imp_of_mem fun {a b} ha hb hab e => ?_
    have := hM.ij a ((t2 a).1 ha) b ((t2 b).1 hb) e
    omega
  · have l1 := (hsg 0).1
    rw [List.length_replicate] at l1
    refine List.ext_getElem (by rw [l1, hM.lm]) fun n n1 n2 => ?_
    have := (hboth n).1
    rw [List.getD_eq_getElem?_getD, List.getElem?_eq_getElem n1, Option.getD_some, List.getD_eq_getElem?_getD, List.getElem?_eq_getElem n2, Option.getD_some] at this
    exact this
  · obtain ⟨_, xv⟩ := qOk_at hq h0 h1
    rw [allow_is hs (by rw [List.length_set]; exact hM.lm) (isM_set hM.im xv)]
    rw [(hboth _).2] at hg
    exact hM.rf i ((o2 i).2 ⟨h0, h1⟩) (fun h => hn ((t2 i).2 h)) hg
  · refine (t2 f).2 ?_
    obtain ⟨b1, b2⟩ := qOk_at hq f0 f1
    have hmem := (o2 f).2 ⟨f0, f1⟩
    cases ho : ordS q with
    | nil => rw [ho] at hmem; cases hmem
    | cons h rest =>
      have hh : h = f := by
        rw [ho] at hmem o1
        rcases List.mem_cons.1 hmem with e | e
        · exact e.symm
        · have q1 := (List.pairwise_cons.1 o1).1 f e
          have hin := (o2 h).1 (by rw [ho]; exact List.mem_cons_self ..)
          have hne : h ≠ f := fun e' => by rw [e'] at q1; exact lexR_as q _ _ q1 q1
          exact absurd q1 (lexR_as q _ _ (hf h hin.1 hin.2 hne))
      subst hh
      obtain ⟨u, u1, u2⟩ := mgS_sub (r := r) (s := s) (q := q) rest ((List.replicate s.length 0).set (mcQ q h).toNat (mvQ q h), (List.replicate s.length false).set (mcQ q h).toNat true, [] ++ [h])
      have e : mg0 r s q = mgS r s q rest ((List.replicate s.length 0).set (mcQ q h).toNat (mvQ q h), (List.replicate s.length false).set (mcQ q h).toNat true, [] ++ [h]) := by
        rw [hm0, ho, mgS, if_neg (by rw [rep_get]; simp), if_pos ha]
      rw [e, u1]
      simp
end
end Go.MR
