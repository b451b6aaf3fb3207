/- What a proof of the rule is: plain laws. -/
import Derived.Test.YtfhomgggbhjglaaMbK
namespace Go.MB
open Go Go.Sx Go.Proofs
set_option linter.unusedVariables false
set_option linter.unusedSimpArgs false
noncomputable section
def shS (a b : List Int) : Bool := a.any fun x => b.any fun y => y == x
theorem shS_comm (a b : List Int) : shS a b = shS b a := by
  unfold shS
  rw [Bool.eq_iff_iff]
  simp only [List.any_eq_true, beq_iff_eq]
  constructor
  · rintro ⟨x, hx, y, hy, rfl⟩; exact ⟨y, hy, y, hx, rfl⟩
  · rintro ⟨x, hx, y, hy, rfl⟩; exact ⟨y, hy, y, hx, rfl⟩
theorem shS_disj (a b : List Int) : disj a b = !shS a b := by
  unfold disj shS
  congr 1
  rw [Bool.eq_iff_iff]
  simp only [List.any_eq_true, beq_iff_eq]
  constructor
  · rintro ⟨x, hx, y, hy, e⟩; exact ⟨x, hx, y, hy, e.symm⟩
  · rintro ⟨x, hx, y, hy, e⟩; exact ⟨x, hx, y, hy, e.symm⟩
theorem shS_self {a : List Int} (h : a ≠ []) : shS a a = true := by
  cases a with
  | nil => exact absurd rfl h
  | cons x r =>
    unfold shS
    rw [List.any_eq_true]
    exact ⟨x, List.mem_cons_self, by rw [List.any_eq_true]; exact ⟨x, List.mem_cons_self, by simp⟩⟩
def Dj (envs : List (List Int)) (j k : Int) : Prop := disj (envAt envs j) (envAt envs k) = true
theorem prf_sound {envs : List (List Int)} : ∀ {l so : List Int} {n : Nat} {x : List Int}, prf envs l so n = some x → so.Pairwise (Dj envs) → x.Pairwise (Dj envs) ∧ ∃ y, x = so ++ y ∧ y.Sublist l ∧ y.length = n
  | l, so, 0, x, h, hp => by
    rw [prf_zero] at h
    cases h
    exact ⟨hp, [], (List.append_nil _).symm, List.nil_sublist _, rfl⟩
  | [], so, n + 1, x, h, hp => by rw [prf] at h; cases h
  | k :: r, so, n + 1, x, h, hp => by
    rw [prf] at h
    split at h
    · rename_i c
      split at h
      · rename_i y hy
        cases h
        have hp' : (so ++ [k]).Pairwise (Dj envs) := List.pairwise_append.2 ⟨hp, List.pairwise_singleton _ _, fun a ha b hb => by
          rw [List.mem_singleton.1 hb]
          exact List.all_eq_true.1 c a ha⟩
        obtain ⟨p, y', e, s, len⟩ := prf_sound hy hp'
        exact ⟨p, k :: y', by rw [e, List.append_assoc]; rfl, List.Sublist.cons_cons k s, by rw [List.length_cons, len]⟩
      · obtain ⟨p, y, e, s, len⟩ := prf_sound h hp
        exact ⟨p, y, e, s.cons k, len⟩
    · obtain ⟨p, y, e, s, len⟩ := prf_sound h hp
      exact ⟨p, y, e, s.cons k, len⟩
theorem prf_full {envs : List (List Int)} : ∀ {l so : List Int} {n : Nat} (s : List Int), s.Nodup → (∀ a ∈ s, a ∈ l) → s.length = n → (∀ a ∈ s, ∀ b ∈ s, a ≠ b → Dj envs a b) → (∀ a ∈ so, ∀ b ∈ s, Dj envs a b) → (prf envs l so n).isSome = true
  | l, so, 0, s, _, _, _, _, _ => by rw [prf_zero]; rfl
  | [], so, n + 1, s, _, h1, h2, _, _ => by
    cases s with
    | nil => cases h2
    | cons a r => exact absurd (h1 a List.mem_cons_self) (by simp)
  | k :: r, so, n + 1, s, h0, h1, h2, h3, h4 => by
    rw [prf]
    by_cases hk : k ∈ s
    · have c : (so.all fun j => disj (envAt envs j) (envAt envs k)) = true := List.all_eq_true.2 fun j hj => h4 j hj k hk
      rw [if_pos c]
      have ih := prf_full (envs := envs) (l := r) (so := so ++ [k]) (n := n) (s.erase k) (h0.erase k)
        (fun a ha => by
          have := (h0.mem_erase_iff).1 ha
          rcases List.mem_cons.1 (h1 a this.2) with e | e
          · exact absurd e this.1
          · exact e)
        (by rw [List.length_erase_of_mem hk, h2]; rfl)
        (fun a ha b hb hab => h3 a (List.mem_of_mem_erase ha) b (List.mem_of_mem_erase hb) hab)
        (fun a ha b hb => by
          have hb' := (h0.mem_erase_iff).1 hb
          rcases List.mem_append.1 ha with ha | ha
          · exact h4 a ha b hb'.2
          · rw [List.mem_singleton.1 ha]
            exact h3 k hk b hb'.2 fun e => hb'.1 e.symm)
      cases e : prf envs r (so ++ [k]) n with
      | some x => rfl
      | none => rw [e] at ih; cases ih
    · have ih := prf_full (envs := envs) (l := r) (so := so) (n := n + 1) s h0
        (fun a ha => by
          rcases List.mem_cons.1 (h1 a ha) with e | e
          · exact absurd (e ▸ ha) hk
          · exact e) h2 h3 h4
      split
      · split
        · rfl
        · exact ih
      · exact ih
theorem standF_asc (f : List Bool) : ∀ (l : List (List Int)) (i : Int), 0 ≤ i → (standF f l i).Pairwise (· < ·)
  | [], i, _ => List.Pairwise.nil
  | x :: l, i, h => by
    rw [standF]
    split
    · exact List.Pairwise.cons (fun k hk => by have := (standF_ok f l (i + 1) (by omega)).2 k hk; omega) (standF_asc f l (i + 1) (by omega))
    · exact standF_asc f l (i + 1) (by omega)
theorem standF_in (f : List Bool) : ∀ (l : List (List Int)) (i : Int), 0 ≤ i → ∀ k ∈ standF f l i, inF f (l.getD (k - i).toNat []) = true
  | [], i, _, k, hk => by cases hk
  | x :: l, i, h, k, hk => by
    have rc : ∀ k ∈ standF f l (i + 1), inF f ((x :: l).getD (k - i).toNat []) = true := fun k hk => by
      have h1 := (standF_ok f l (i + 1) (by omega)).2 k hk
      have h2 := standF_in f l (i + 1) (by omega) k hk
      rw [show (k - i).toNat = (k - (i + 1)).toNat + 1 by omega]
      exact h2
    rw [standF] at hk
    split at hk
    · rename_i c
      rcases List.mem_cons.1 hk with rfl | hk
      · rw [show (k - k).toNat = 0 by omega]; exact c
      · exact rc k hk
    · exact rc k hk
structure PrOk (h : Hs) (tick press : Int) (l st : List Int) : Prop where
  len : (l.length : Int) = h.2.2
  few : l.length ≤ 3
  mem : ∀ i : Nat, i < l.length → (st.any fun y => y == l.getD i 0) = true
  rng : ∀ i : Nat, i < l.length → 0 ≤ l.getD i 0 ∧ l.getD i 0 < h.2.1.length
  asc : ∀ i : Nat, i + 1 < l.length → l.getD i 0 < l.getD (i + 1) 0
  eff : ∀ i : Nat, i < l.length → ∀ y ∈ h.2.1.getD (l.getD i 0).toNat [], efS h y tick press = true
  dis : ∀ k i : Nat, k < i → i < l.length → shS (h.2.1.getD (l.getD i 0).toNat []) (h.2.1.getD (l.getD k 0).toNat []) = false
theorem getD_el {l : List Int} {i : Nat} (h : i < l.length) : l.getD i 0 = l[i] := by
  rw [List.getD_eq_getElem?_getD, List.getElem?_eq_getElem h]; rfl
theorem pr_ok {h : Hs} {tick press : Int} (hb : (prS h tick press).2 = true) : PrOk h tick press (prS h tick press).1 (stS h tick press) := by
  unfold prS at hb ⊢
  unfold stS
  by_cases c : houseE h ≠ 0
  · rw [if_pos c] at hb; cases hb
  rw [if_neg c] at hb
  rw [if_neg c, if_neg c]
  have he : houseE h = 0 := Decidable.not_not.1 c
  have k := houseE_ok he
  have nd := k.nd
  dsimp only at hb ⊢
  unfold holdsS at hb
  unfold proofF at hb ⊢
  cases e : prf h.2.1 (standF (soundF h tick press) h.2.1 0) [] h.2.2.toNat with
  | none => rw [e] at hb; cases hb
  | some x =>
    obtain ⟨p, y, ex, s, len⟩ := prf_sound e List.Pairwise.nil
    rw [List.nil_append] at ex
    subst ex
    show PrOk h tick press x _
    have hm : ∀ i (hi : i < x.length), x[i] ∈ standF (soundF h tick press) h.2.1 0 := fun i hi => s.subset (List.getElem_mem hi)
    have ha : x.Pairwise (· < ·) := (standF_asc (soundF h tick press) h.2.1 0 (by decide)).sublist s
    have hr : ∀ i (hi : i < x.length), 0 ≤ x[i] ∧ x[i] < h.2.1.length := fun i hi => by
      have := (standF_ok (soundF h tick press) h.2.1 0 (by decide)).2 _ (hm i hi)
      omega
    refine ⟨by omega, by omega, fun i hi => ?_, fun i hi => ?_, fun i hi => ?_, fun i hi y hy => ?_, fun k' i hk hi => ?_⟩
    · rw [getD_el hi, List.any_eq_true]
      exact ⟨x[i], hm i hi, by simp⟩
    · rw [getD_el hi]; exact hr i hi
    · rw [getD_el hi, getD_el (show i < x.length by omega)]
      exact List.pairwise_iff_getElem.1 ha i (i + 1) (by omega) hi (by omega)
    · rw [getD_el hi] at hy
      have h1 := standF_in (soundF h tick press) h.2.1 0 (by decide) _ (hm i hi)
      rw [Int.sub_zero] at h1
      have h2 := List.all_eq_true.1 h1 y hy
      have hx := hr i hi
      have h3 := (k.ev _ (getD_mem (d := ([] : List Int)) (show (x[i]).toNat < h.2.1.length by omega))).2.2 y hy
      unfold efS
      rw [he]
      unfold soundF at h2
      have h4 : y.toNat < h.1.length := by omega
      rw [List.getD_eq_getElem?_getD, List.getElem?_map, List.getElem?_eq_getElem h4] at h2
      have h5 : h.1.getD y.toNat (0, 0, 0, 0) = h.1[y.toNat] := by rw [List.getD_eq_getElem?_getD, List.getElem?_eq_getElem h4]; rfl
      rw [h5, decide_eq_true (show 0 ≤ y ∧ y < (h.1.length : Int) by omega)]
      exact h2
    · have hk' : k' < x.length := by omega
      rw [getD_el hi, getD_el hk']
      have h1 : Dj h.2.1 x[k'] x[i] := List.pairwise_iff_getElem.1 p k' i hk' hi hk
      unfold Dj at h1
      rw [shS_disj] at h1
      rw [shS_comm]
      have h2 : shS (envAt h.2.1 x[k']) (envAt h.2.1 x[i]) = false := by simpa using h1
      exact h2
def frL (st : List Int) (envs : List (List Int)) : List Int → List Int → Bool
  | _, [] => true
  | p, x :: r => (st.any fun y => y == x) && ((p.all fun j => !shS (envAt envs x) (envAt envs j)) && frL st envs (p ++ [x]) r)
theorem frL_ok {st : List Int} {envs : List (List Int)} : ∀ {r p : List Int}, frL st envs p r = true → (∀ x ∈ r, x ∈ st) ∧ (∀ j ∈ p, ∀ x ∈ r, shS (envAt envs x) (envAt envs j) = false) ∧ r.Pairwise fun j x => shS (envAt envs x) (envAt envs j) = false
  | [], p, _ => ⟨fun x hx => (by cases hx), fun j _ x hx => (by cases hx), List.Pairwise.nil⟩
  | x :: r, p, h => by
    rw [frL, Bool.and_eq_true, Bool.and_eq_true] at h
    obtain ⟨h1, h2, h3⟩ := h
    obtain ⟨i1, i2, i3⟩ := frL_ok h3
    refine ⟨fun y hy => ?_, fun j hj y hy => ?_, List.Pairwise.cons (fun y hy => i2 x (by simp) y hy) i3⟩
    · rcases List.mem_cons.1 hy with rfl | hy
      · rw [List.any_eq_true] at h1
        obtain ⟨z, hz, e⟩ := h1
        rw [beq_iff_eq] at e
        exact e ▸ hz
      · exact i1 y hy
    · rcases List.mem_cons.1 hy with rfl | hy
      · have := List.all_eq_true.1 h2 j hj
        simpa using this
      · exact i2 j (by simp [hj]) y hy
theorem pw_all {R : Int → Int → Prop} (hs : ∀ a b, R a b → R b a) : ∀ {l : List Int}, l.Pairwise R → ∀ a ∈ l, ∀ b ∈ l, a ≠ b → R a b
  | [], _, a, ha, _, _, _ => by cases ha
  | x :: l, h, a, ha, b, hb, hab => by
    obtain ⟨h1, h2⟩ := List.pairwise_cons.1 h
    rcases List.mem_cons.1 ha with e1 | ha
    · rcases List.mem_cons.1 hb with e2 | hb
      · exact absurd (e1.trans e2.symm) hab
      · rw [e1]; exact h1 b hb
    · rcases List.mem_cons.1 hb with e2 | hb
      · rw [e2]; exact hs _ _ (h1 a ha)
      · exact pw_all hs h2 a ha b hb hab
theorem pr_none {h : Hs} {tick press : Int} (hb : (prS h tick press).2 = false) {s : List Int} (hn : 1 ≤ h.2.2) (hl : (s.length : Int) = h.2.2) : frL (stS h tick press) h.2.1 [] s = false := by
  rw [Bool.eq_false_iff]
  intro hf
  obtain ⟨h1, _, h3⟩ := frL_ok hf
  unfold stS at h1
  unfold prS at hb
  by_cases c : houseE h ≠ 0
  · rw [if_pos c] at h1
    cases s with
    | nil => rw [List.length_nil] at hl; omega
    | cons a r => exact absurd (h1 a List.mem_cons_self) (by simp)
  rw [if_neg c] at h1 hb
  have k := houseE_ok (Decidable.not_not.1 c)
  have hne : ∀ a ∈ s, envAt h.2.1 a ≠ [] := fun a ha => by
    have := (standF_ok (soundF h tick press) h.2.1 0 (by decide)).2 _ (h1 a ha)
    exact (k.ev _ (getD_mem (d := ([] : List Int)) (show a.toNat < h.2.1.length by omega))).1
  have h4 : (prf h.2.1 (standF (soundF h tick press) h.2.1 0) [] h.2.2.toNat).isSome = true := by
    refine prf_full s ?_ h1 (by omega) (fun a ha b hb hab => ?_) (fun a ha => (by cases ha))
    · refine List.Pairwise.imp_of_mem ?_ h3
      intro a b ha hb' hab e
      subst e
      rw [shS_self (hne a ha)] at hab
      cases hab
    · have := pw_all (R := fun j x => shS (envAt h.2.1 x) (envAt h.2.1 j) = false) (fun a b e => by rw [shS_comm]; exact e) h3 a ha b hb hab
      unfold Dj
      rw [shS_disj, shS_comm, this]; rfl
  have h5 : holdsS h tick press = true := h4
  dsimp only at hb
  rw [h5] at hb
  cases hb
theorem prS_nil {h : Hs} {tick press : Int} (hb : (prS h tick press).2 = false) : (prS h tick press).1 = [] := by
  unfold prS at hb ⊢
  split
  · rfl
  · rename_i c
    rw [if_neg c] at hb
    dsimp only at hb ⊢
    unfold holdsS at hb
    cases e : proofF h (soundF h tick press) with
    | none => rfl
    | some x => rw [e] at hb; cases hb
end
end Go.MB
