/- The law PathBest: the program's search meets each path that a goal allows, and keeps a shortest one. -/
import Derived.Test.YtnlflnbbgklalaaMpAg
namespace Go.MP
open Go Go.Sx Go.Proofs
set_option linter.unusedVariables false
set_option linter.unusedSimpArgs false
noncomputable section

/-! ### Ways on -/
def legG (g : Goal) (p : Int × Int) : V := vmul (g.1.getD p.1.toNat (0, 0, 0)) p.2
def legsG (g : Goal) (ws : List (Int × Int)) : List V := ws.map (legG g)
def goodW (g : Goal) : V → V → Int → List (Int × Int) → Prop
  | _, _, _, [] => True
  | a, bf, dir, p :: r => 0 ≤ p.1 ∧ p.1 < g.1.length ∧ p.1 ≠ dir ∧ bendsS bf (g.1.getD p.1.toNat (0, 0, 0)) g.2.2.2.1 = true ∧ 1 ≤ p.2 ∧ p.2 ≤ g.2.1 ∧ validS (vadd a (legG g p)) = true ∧ goodW g (vadd a (legG g p)) (legG g p) p.1 r
def endW (g : Goal) : V → List (Int × Int) → V
  | a, [] => a
  | a, p :: r => endW g (vadd a (legG g p)) r
def lenW (g : Goal) : Int → List (Int × Int) → Int
  | n, [] => n
  | n, p :: r => lenW g (n + (wholeS (g.1.getD p.1.toNat (0, 0, 0))).1 * p.2) r

/-- What a search has found: something of 'F', no longer than anything of 'C'. -/
structure Spec (F C : Best → Prop) (b b' : Best) : Prop where
  le : 0 ≤ b.2 → 0 ≤ b'.2 ∧ b'.2 ≤ b.2
  src : b' = b ∨ F b'
  cov : ∀ x, C x → 0 ≤ b'.2 ∧ b'.2 ≤ x.2
theorem Spec.refl (F C : Best → Prop) (b : Best) (h : ∀ x, ¬ C x) : Spec F C b b := ⟨fun h => ⟨h, Int.le_refl _⟩, .inl rfl, fun x hx => absurd hx (h x)⟩
theorem Spec.trans {F C1 C2 C : Best → Prop} {b b1 b2 : Best} (h1 : Spec F C1 b b1) (h2 : Spec F C2 b1 b2) (hC : ∀ x, C x → C1 x ∨ C2 x) : Spec F C b b2 := by
  refine ⟨fun h => ?_, ?_, fun x hx => ?_⟩
  · have a := h1.le h
    have b := h2.le a.1
    omega
  · rcases h2.src with e | e
    · rw [e]; exact h1.src
    · exact .inr e
  · rcases hC x hx with h | h
    · have a := h1.cov x h
      have b := h2.le a.1
      omega
    · exact h2.cov x h
theorem Spec.mono {F F' C C' : Best → Prop} {b b' : Best} (h : Spec F C b b') (hF : ∀ x, F x → F' x) (hC : ∀ x, C' x → C x) : Spec F' C' b b' :=
  ⟨h.le, h.src.imp id (hF _), fun x hx => h.cov x (hC x hx)⟩

/-- What can be found from a place on. -/
def Fd (g : Goal) (m : Nat) (now : List V) (a bf : V) (dir len : Int) (x : Best) : Prop :=
  ∃ ws : List (Int × Int), ws.length ≤ m ∧ goodW g a bf dir ws ∧ now ++ legsG g ws ≠ [] ∧ withinS (endW g a ws) g.2.2.2.2 = true ∧ x = (now ++ legsG g ws, lenW g len ws)
def Fh (g : Goal) (now : List V) (a : V) (len : Int) (x : Best) : Prop := now ≠ [] ∧ withinS a g.2.2.2.2 = true ∧ x = (now, len)
theorem here_spec (g : Goal) (now : List V) (a : V) (len : Int) (b : Best) (h0 : 0 ≤ len) : Spec (Fh g now a len) (Fh g now a len) b (hereS g now a len b) := by
  unfold hereS
  by_cases h : now ≠ [] ∧ withinS a g.2.2.2.2 = true ∧ (b.2 < 0 ∨ len < b.2 ∨ (len = b.2 ∧ now.length < b.1.length))
  · rw [if_pos h]
    refine ⟨fun hb => ⟨h0, ?_⟩, .inr ⟨h.1, h.2.1, rfl⟩, fun x hx => ?_⟩
    · show len ≤ b.2
      omega
    · rw [hx.2.2]
      exact ⟨h0, Int.le_refl _⟩
  · rw [if_neg h]
    refine ⟨fun hb => ⟨hb, Int.le_refl _⟩, .inl rfl, fun x hx => ?_⟩
    rw [hx.2.2]
    show 0 ≤ b.2 ∧ b.2 ≤ len
    have : ¬ (b.2 < 0 ∨ len < b.2 ∨ (len = b.2 ∧ now.length < b.1.length)) := fun k => h ⟨hx.1, hx.2.1, k⟩
    omega

theorem k_spec {g : Goal} {m : Nat} {now : List V} {a D : V} {i len : Int} {rec : List V → V → V → Int → Int → Best → Best} (hD : 0 ≤ (wholeS D).1 ∧ (wholeS D).1 ≤ 4000) (hlen : 0 ≤ len ∧ len ≤ 1000000)
    (hrec : ∀ (k : Int) (b : Best), 1 ≤ k → k ≤ 8 → Spec (Fd g m (now ++ [vmul D k]) (vadd a (vmul D k)) (vmul D k) i (len + (wholeS D).1 * k)) (Fd g m (now ++ [vmul D k]) (vadd a (vmul D k)) (vmul D k) i (len + (wholeS D).1 * k)) b (rec (now ++ [vmul D k]) (vadd a (vmul D k)) (vmul D k) i (len + (wholeS D).1 * k) b)) :
    ∀ (j : Nat) (k : Int) (b : Best), 1 ≤ k → k + j ≤ 9 → Spec (fun x => ∃ k', 1 ≤ k' ∧ k' < k + j ∧ validS (vadd a (vmul D k')) = true ∧ Fd g m (now ++ [vmul D k']) (vadd a (vmul D k')) (vmul D k') i (len + (wholeS D).1 * k') x)
      (fun x => ∃ k', k ≤ k' ∧ k' < k + j ∧ validS (vadd a (vmul D k')) = true ∧ Fd g m (now ++ [vmul D k']) (vadd a (vmul D k')) (vmul D k') i (len + (wholeS D).1 * k') x) b (kR rec now a D i len (wholeS D).1 j k b)
  | 0, k, b, _, _ => Spec.refl _ _ b fun x ⟨k', h1, h2, _⟩ => by omega
  | j + 1, k, b, hk, hk9 => by
    rw [kR]
    have mb := mulB (a := (wholeS D).1) (b := k) (A := 4000) (B := 9) (by omega) (by omega)
    rw [W_id (n := (wholeS D).1 * k) (by omega) (by omega), W_id (n := len + (wholeS D).1 * k) (by omega) (by omega)]
    have ih := fun b => k_spec hD hlen hrec j (k + 1) b (by omega) (by omega)
    by_cases hv : validS (vadd a (vmul D k)) = true
    · rw [if_pos hv]
      refine Spec.trans (C1 := Fd g m (now ++ [vmul D k]) (vadd a (vmul D k)) (vmul D k) i (len + (wholeS D).1 * k)) ((hrec k b hk (by omega)).mono (fun x hx => ⟨k, hk, by omega, hv, hx⟩) fun x hx => hx) ((ih _).mono (fun x ⟨k', h1, h2, h⟩ => ⟨k', h1, by omega, h⟩) fun x hx => hx) fun x ⟨k', h1, h2, h3, h4⟩ => ?_
      by_cases e : k' = k
      · subst e; exact .inl h4
      · exact .inr ⟨k', by omega, by omega, h3, h4⟩
    · rw [if_neg hv]
      refine (ih b).mono (fun x ⟨k', h1, h2, h⟩ => ⟨k', h1, by omega, h⟩) fun x ⟨k', h1, h2, h3, h4⟩ => ?_
      have : k' ≠ k := fun e => hv (e ▸ h3)
      exact ⟨k', by omega, by omega, h3, h4⟩

/-- Ways on that begin with a direction from a number on. -/
def Fi (g : Goal) (m : Nat) (now : List V) (a bf : V) (dir len : Int) (i : Int) (x : Best) : Prop :=
  ∃ (p : Int × Int), i ≤ p.1 ∧ 0 ≤ p.1 ∧ p.1 < g.1.length ∧ p.1 ≠ dir ∧ bendsS bf (g.1.getD p.1.toNat (0, 0, 0)) g.2.2.2.1 = true ∧ 1 ≤ p.2 ∧ p.2 ≤ g.2.1 ∧ validS (vadd a (legG g p)) = true ∧ Fd g m (now ++ [legG g p]) (vadd a (legG g p)) (legG g p) p.1 (len + (wholeS (g.1.getD p.1.toNat (0, 0, 0))).1 * p.2) x
theorem d_spec {g : Goal} {m : Nat} {now : List V} {a bf : V} {dir len : Int} {rec : List V → V → V → Int → Int → Best → Best} (hg : OkG g) (hlen : 0 ≤ len ∧ len ≤ 1000000)
    (hrec : ∀ (D : V) (i k : Int) (b : Best), goalDir D → 1 ≤ k → k ≤ 8 → Spec (Fd g m (now ++ [vmul D k]) (vadd a (vmul D k)) (vmul D k) i (len + (wholeS D).1 * k)) (Fd g m (now ++ [vmul D k]) (vadd a (vmul D k)) (vmul D k) i (len + (wholeS D).1 * k)) b (rec (now ++ [vmul D k]) (vadd a (vmul D k)) (vmul D k) i (len + (wholeS D).1 * k) b)) :
    ∀ (l : List V) (i : Int) (b : Best), 0 ≤ i → l = g.1.drop i.toNat → Spec (Fi g m now a bf dir len 0) (Fi g m now a bf dir len i) b (dR rec g now a bf dir len l i b)
  | [], i, b, hi, hl => Spec.refl _ _ b fun x ⟨p, h1, h2, h3, _⟩ => by
    have : g.1.length ≤ i.toNat := by
      have := congrArg List.length hl
      rw [List.length_drop, List.length_nil] at this
      omega
    omega
  | D :: r, i, b, hi, hl => by
    have hlt : i < (g.1.length : Int) := by
      have := congrArg List.length hl
      rw [List.length_drop, List.length_cons] at this
      omega
    have hs := drop_step (0, 0, 0) hi hlt
    rw [← hl] at hs
    injection hs with hD hr
    have hmem : goalDir D := hg.dirs D (by
      rw [hD, List.getD_eq_getElem?_getD, List.getElem?_eq_getElem (by omega)]
      exact List.getElem_mem _)
    have ih := fun b => d_spec (bf := bf) (dir := dir) hg hlen hrec r (i + 1) b (by omega) hr
    rw [dR]
    by_cases hc : i = dir ∨ bendsS bf D g.2.2.2.1 = false
    · rw [if_pos hc]
      refine (ih b).mono (fun x hx => hx) fun x ⟨p, h1, h2, h3, h4, h5, h⟩ => ?_
      refine ⟨p, ?_, h2, h3, h4, h5, h⟩
      have : p.1 ≠ i := fun e => by
        rw [e] at h4 h5
        rw [← hD] at h5
        rcases hc with hc | hc
        · exact h4 hc
        · rw [hc] at h5; cases h5
      omega
    · rw [if_neg hc]
      have hdir : i ≠ dir := fun e => hc (.inl e)
      have hb : bendsS bf D g.2.2.2.1 = true := by
        cases h : bendsS bf D g.2.2.2.1
        · exact absurd (Or.inr h) hc
        · rfl
      have m1 := hg.m1
      have m8 := hg.m8
      have ks := k_spec (g := g) (m := m) (now := now) (a := a) (D := D) (i := i) (len := len) (rec := rec) ⟨by have := hmem.2.1; omega, hmem.2.2⟩ hlen (fun k b h1 h2 => hrec D i k b hmem h1 h2) g.2.1.toNat 1 b (by decide) (by omega)
      refine Spec.trans (ks.mono (fun x ⟨k', h1, h2, h3, h4⟩ => ?_) fun x hx => hx) (ih _) fun x ⟨p, h1, h2, h3, h4, h5, h6, h7, h8, h9⟩ => ?_
      · refine ⟨(i, k'), hi, hi, hlt, hdir, ?_, h1, by show k' ≤ g.2.1; omega, ?_, ?_⟩
        · show bendsS bf (g.1.getD i.toNat (0, 0, 0)) g.2.2.2.1 = true
          rw [← hD]; exact hb
        · show validS (vadd a (vmul (g.1.getD i.toNat (0, 0, 0)) k')) = true
          rw [← hD]; exact h3
        · show Fd g m (now ++ [vmul (g.1.getD i.toNat (0, 0, 0)) k']) (vadd a (vmul (g.1.getD i.toNat (0, 0, 0)) k')) (vmul (g.1.getD i.toNat (0, 0, 0)) k') i (len + (wholeS (g.1.getD i.toNat (0, 0, 0))).1 * k') x
          rw [← hD]; exact h4
      · by_cases e : p.1 = i
        · obtain ⟨p1, p2⟩ := p
          subst e
          dsimp only at *
          unfold legG at h8 h9
          dsimp only at h8 h9
          rw [← hD] at h8 h9
          exact .inl ⟨p2, h6, by omega, h8, h9⟩
        · exact .inr ⟨p, by omega, h2, h3, h4, h5, h6, h7, h8, h9⟩

theorem walk_spec {g : Goal} (hg : OkG g) : ∀ (m : Nat) (now : List V) (a bf : V) (dir len : Int) (b : Best), 0 ≤ len → len + 40000 * m ≤ 1000000 → Spec (Fd g m now a bf dir len) (Fd g m now a bf dir len) b (walkR g m now a bf dir len b)
  | 0, now, a, bf, dir, len, b, h0, _ => by
    refine (here_spec g now a len b h0).mono (fun x ⟨h1, h2, h3⟩ => ⟨[], Nat.le_refl _, trivial, by simpa [legsG] using h1, h2, by simpa [legsG, lenW] using h3⟩) fun x ⟨ws, h1, h2, h3, h4, h5⟩ => ?_
    cases ws with
    | nil => exact ⟨by simpa [legsG] using h3, h4, by simpa [legsG, lenW] using h5⟩
    | cons p r => simp at h1
  | m + 1, now, a, bf, dir, len, b, h0, h1 => by
    rw [walkR]
    have hd := d_spec (m := m) (now := now) (a := a) (bf := bf) (dir := dir) (len := len) (rec := walkR g m) hg ⟨h0, by omega⟩ (fun D i k b hD hk hk8 => by
      have mb := mulB (a := (wholeS D).1) (b := k) (A := 4000) (B := 8) (by have := hD.2; omega) (by omega)
      have : 0 ≤ (wholeS D).1 * k := Int.mul_nonneg (by have := hD.2; omega) (by omega)
      exact walk_spec hg m _ _ _ _ _ _ (by omega) (by omega)) g.1 0 (hereS g now a len b) (by decide) rfl
    refine Spec.trans ((here_spec g now a len b h0).mono (fun x ⟨h1, h2, h3⟩ => ⟨[], Nat.zero_le _, trivial, by simpa [legsG] using h1, h2, by simpa [legsG, lenW] using h3⟩) fun x hx => hx) (hd.mono (fun x ⟨p, k1, k2, k3, k4, k5, k6, k7, k8, ws, w1, w2, w3, w4, w5⟩ => ?_) fun x hx => hx) fun x ⟨ws, w1, w2, w3, w4, w5⟩ => ?_
    · exact ⟨p :: ws, by simp; omega, ⟨k2, k3, k4, k5, k6, k7, k8, w2⟩, by simp [legsG], w4, by rw [w5]; simp [legsG, lenW]⟩
    · cases ws with
      | nil => exact .inl ⟨by simpa [legsG] using w3, w4, by simpa [legsG, lenW] using w5⟩
      | cons p r =>
        obtain ⟨k2, k3, k4, k5, k6, k7, k8, w2⟩ := w2
        exact .inr ⟨p, k2, k2, k3, k4, k5, k6, k7, k8, r, by simp at w1; omega, w2, by simp, w4, by rw [w5]; simp [legsG, lenW]⟩

/-- What the law's own look at a path shows. -/
def reach (g : Goal) (x first : V) (ws : List (Int × Int)) : Prop := (ws.length : Int) ≤ g.2.2.1 ∧ goodW g x first (-1) ws ∧ ws ≠ [] ∧ withinS (endW g x ws) g.2.2.2.2 = true
theorem search_spec {g : Goal} (hg : OkG g) (hle : 0 ≤ g.2.2.1 ∧ g.2.2.1 ≤ 3) (x first : V) :
    ((walkR g g.2.2.1.toNat [] x first (-1) 0 ([], -1)).2 < 0 → ∀ ws, ¬ reach g x first ws) ∧
    (0 ≤ (walkR g g.2.2.1.toNat [] x first (-1) 0 ([], -1)).2 → (∃ ws, reach g x first ws ∧ walkR g g.2.2.1.toNat [] x first (-1) 0 ([], -1) = (legsG g ws, lenW g 0 ws)) ∧ ∀ ws, reach g x first ws → (walkR g g.2.2.1.toNat [] x first (-1) 0 ([], -1)).2 ≤ lenW g 0 ws) := by
  have h := walk_spec hg g.2.2.1.toNat [] x first (-1) 0 ([], -1) (by decide) (by omega)
  generalize walkR g g.2.2.1.toNat [] x first (-1) 0 ([], -1) = r at *
  have hcov : ∀ ws, reach g x first ws → 0 ≤ r.2 ∧ r.2 ≤ lenW g 0 ws := fun ws ⟨h1, h2, h3, h4⟩ => h.cov ([] ++ legsG g ws, lenW g 0 ws) ⟨ws, by omega, h2, by simpa [legsG] using h3, h4, rfl⟩
  refine ⟨fun hn ws hw => ?_, fun hn => ⟨?_, fun ws hw => (hcov ws hw).2⟩⟩
  · have := hcov ws hw; omega
  · rcases h.src with e | ⟨ws, h1, h2, h3, h4, h5⟩
    · rw [e] at hn; exact absurd hn (by decide)
    · exact ⟨ws, ⟨by omega, h2, by simpa [legsG] using h3, h4⟩, by simpa using h5⟩

end
end Go.MP
