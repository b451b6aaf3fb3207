/- RigReached: by the best moves a goal is reached in time. -/
import Derived.Test.YtmolckndbmjgfaaMrZ
namespace Go.MR
open Go Go.Sx Go.Proofs
set_option linter.unusedVariables false
set_option linter.unusedSimpArgs false
noncomputable section

def bitsA (kk : Int) : Nat → Int → List Bool
  | 0, _ => []
  | n + 1, i => (Int.tmod (shrI .i64 kk i) 2 == 1) :: bitsA kk n (i + 1)
theorem bitsA_len (kk : Int) : ∀ (n : Nat) (i : Int), (bitsA kk n i).length = n
  | 0, _ => rfl
  | n + 1, i => by rw [bitsA, List.length_cons, bitsA_len]
def lostB (pick left : Int) : List Int → Int → Int → List Int
  | x :: m, i, c => if c < left then (if ((x != 0) && (shrI .i64 pick i % 2 == 1)) = true then i :: lostB pick left m (i + 1) (c + 1) else lostB pick left m (i + 1) c) else []
  | [], _, _ => []
theorem lostB_eq {pick left : Int} : ∀ (m : List Int) (i c : Int), ∃ bl : List Bool, bl.length = m.length ∧ lostB pick left m i c = lostG bl m i ∧ (0 ≤ left - c → ((lostB pick left m i c).length : Int) ≤ left - c)
  | [], i, c => ⟨[], rfl, rfl, fun h => by rw [lostB, List.length_nil]; omega⟩
  | x :: m, i, c => by
    rw [lostB]
    by_cases h : c < left
    · rw [if_pos h]
      by_cases h2 : ((x != 0) && (shrI .i64 pick i % 2 == 1)) = true
      · obtain ⟨bl, b1, b2, b3⟩ := lostB_eq (pick := pick) (left := left) m (i + 1) (c + 1)
        rw [if_pos h2]
        refine ⟨true :: bl, by simp [b1], ?_, fun _ => by rw [List.length_cons]; have := b3 (by omega); omega⟩
        rw [lostG, Bool.true_and]
        rw [Bool.and_eq_true] at h2
        rw [if_pos h2.1, b2]
      · obtain ⟨bl, b1, b2, b3⟩ := lostB_eq (pick := pick) (left := left) m (i + 1) c
        rw [if_neg h2]
        refine ⟨false :: bl, by simp [b1], ?_, b3⟩
        rw [lostG, Bool.false_and, if_neg (by simp), b2]
    · rw [if_neg h]
      have none : ∀ (m : List Int) (i : Int), ∃ bl : List Bool, bl.length = m.length ∧ lostG bl m i = [] := fun m => by
        induction m with
        | nil => exact fun i => ⟨[], rfl, rfl⟩
        | cons x m ih =>
          intro i
          obtain ⟨bl, b1, b2⟩ := ih (i + 1)
          exact ⟨false :: bl, by simp [b1], by rw [lostG, Bool.false_and, if_neg (by simp), b2]⟩
      obtain ⟨bl, b1, b2⟩ := none (x :: m) i
      exact ⟨bl, b1, b2.symm, fun h => by rw [List.length_nil]; omega⟩
def lostA (kk : Int) (m : List Int) : List Int := lostG (bitsA kk m.length 0) m 0
/-- The first part's numbers. -/
def raR (r : Rig) (g : List (Int × Int)) (losses : Int) (s m : List Int) : Nat → Int → Int × Bool → Int × Bool
  | 0, _, x => x
  | f + 1, kk, x => raR r g losses s m f (kk + 1) (if ((lostA kk m).length : Int) > losses then x else (maxI x.1 (ticksS r (appS (lostA kk m) s m 0) g (losses - (lostA kk m).length)).1, x.2 && (ticksS r (appS (lostA kk m) s m 0) g (losses - (lostA kk m).length)).2 == 0))
theorem maxI_ge (a b : Int) : a ≤ maxI a b ∧ b ≤ maxI a b := by unfold maxI; split <;> omega
theorem raR_ok {r : Rig} {g : List (Int × Int)} {losses : Int} {s m : List Int} : ∀ (f : Nat) (kk : Int) (x : Int × Bool), x.1 ≤ (raR r g losses s m f kk x).1 ∧ ((raR r g losses s m f kk x).2 = true → x.2 = true ∧ ∀ j : Int, kk ≤ j → j < kk + f → ((lostA j m).length : Int) ≤ losses →
    (ticksS r (appS (lostA j m) s m 0) g (losses - (lostA j m).length)).2 = 0 ∧ (ticksS r (appS (lostA j m) s m 0) g (losses - (lostA j m).length)).1 ≤ (raR r g losses s m f kk x).1)
  | 0, kk, x => ⟨Int.le_refl _, fun h => ⟨h, fun j h1 h2 => by omega⟩⟩
  | f + 1, kk, x => by
    rw [raR]
    by_cases c : ((lostA kk m).length : Int) > losses
    · rw [if_pos c]
      obtain ⟨h1, h2⟩ := raR_ok (r := r) (g := g) (losses := losses) (s := s) (m := m) f (kk + 1) x
      refine ⟨h1, fun h => ⟨(h2 h).1, fun j h3 h4 h5 => ?_⟩⟩
      by_cases e : j = kk
      · subst e; omega
      · exact (h2 h).2 j (by omega) (by omega) h5
    · rw [if_neg c]
      obtain ⟨h1, h2⟩ := raR_ok (r := r) (g := g) (losses := losses) (s := s) (m := m) f (kk + 1) (maxI x.1 (ticksS r (appS (lostA kk m) s m 0) g (losses - (lostA kk m).length)).1, x.2 && (ticksS r (appS (lostA kk m) s m 0) g (losses - (lostA kk m).length)).2 == 0)
      have hm := maxI_ge x.1 (ticksS r (appS (lostA kk m) s m 0) g (losses - (lostA kk m).length)).1
      dsimp only at h1
      refine ⟨by omega, fun h => ?_⟩
      obtain ⟨h3, h4⟩ := h2 h
      dsimp only at h3
      rw [Bool.and_eq_true] at h3
      refine ⟨h3.1, fun j h5 h6 h7 => ?_⟩
      by_cases e : j = kk
      · subst e
        exact ⟨eq_of_beq h3.2, by omega⟩
      · exact h4 j (by omega) (by omega) h7
/-- The second part's end. -/
def rbR (r : Rig) (g : List (Int × Int)) (pk : List Int) : Nat → List Int → Int → Int → Int → List Int
  | 0, s, _, _, _ => s
  | f + 1, s, n, left, k => if 0 < n then
      rbR r g pk f (appS (lostB (if k < pk.length then pk.getD k.toNat 0 else 0) left (nextS r s g left).1 0 0) s (nextS r s g left).1 0)
        (ticksS r (appS (lostB (if k < pk.length then pk.getD k.toNat 0 else 0) left (nextS r s g left).1 0 0) s (nextS r s g left).1 0) g (left - (lostB (if k < pk.length then pk.getD k.toNat 0 else 0) left (nextS r s g left).1 0 0).length)).1
        (left - (lostB (if k < pk.length then pk.getD k.toNat 0 else 0) left (nextS r s g left).1 0 0).length) (k + 1)
    else s

def raC (r : Rig) (g : List (Int × Int)) (losses : Int) (s m : List Int) (n : Int) (f : Nat) (kk : Int) (x : Int × Bool) : Int × Bool := if 0 < n then raR r g losses s m f kk x else x
theorem raC_no {r : Rig} {g : List (Int × Int)} {losses : Int} {s m : List Int} {n : Int} {f : Nat} {kk : Int} {x : Int × Bool} (h : ¬ 0 < n) : raC r g losses s m n f kk x = x := by unfold raC; rw [if_neg h]
theorem raC_end {r : Rig} {g : List (Int × Int)} {losses : Int} {s m : List Int} {n : Int} {kk : Int} {x : Int × Bool} : raC r g losses s m n 0 kk x = x := by unfold raC; split <;> rfl
theorem raC_step {r : Rig} {g : List (Int × Int)} {losses : Int} {s m : List Int} {n : Int} {f : Nat} {kk : Int} {x : Int × Bool} (h : 0 < n) : raC r g losses s m n (f + 1) kk x = raC r g losses s m n f (kk + 1) (if ((lostA kk m).length : Int) > losses then x else (maxI x.1 (ticksS r (appS (lostA kk m) s m 0) g (losses - (lostA kk m).length)).1, x.2 && (ticksS r (appS (lostA kk m) s m 0) g (losses - (lostA kk m).length)).2 == 0)) := by
  unfold raC
  rw [if_pos h, if_pos h, raR]
theorem rbR_end {r : Rig} {g : List (Int × Int)} {pk : List Int} {s : List Int} {n left k : Int} (h : ¬ 0 < n) : ∀ f : Nat, rbR r g pk f s n left k = s
  | 0 => rfl
  | f + 1 => by rw [rbR, if_neg h]
/-- A round of the second part. -/
structure RndB (r : Rig) (g : List (Int × Int)) (s : List Int) (n left pick : Int) : Prop where
  e0 : (nextS r s g left).2 = 0
  ml : (nextS r s g left).1.length = r.1.length
  st : stepS r s (nextS r s g left).1 (lostB pick left (nextS r s g left).1 0 0) = (appS (lostB pick left (nextS r s g left).1 0 0) s (nextS r s g left).1 0, 0)
  sf : Sf r (appS (lostB pick left (nextS r s g left).1 0 0) s (nextS r s g left).1 0)
  ll : (lostB pick left (nextS r s g left).1 0 0).length ≤ 4
  l2 : left - (lostB pick left (nextS r s g left).1 0 0).length ≤ 2
  l0 : 0 ≤ left - (lostB pick left (nextS r s g left).1 0 0).length
  t2 : (ticksS r (appS (lostB pick left (nextS r s g left).1 0 0) s (nextS r s g left).1 0) g (left - (lostB pick left (nextS r s g left).1 0 0).length)).2 = 0
  t1 : (ticksS r (appS (lostB pick left (nextS r s g left).1 0 0) s (nextS r s g left).1 0) g (left - (lostB pick left (nextS r s g left).1 0 0).length)).1 = tickD r.1 r.2 g (left - (lostB pick left (nextS r s g left).1 0 0).length).toNat (appS (lostB pick left (nextS r s g left).1 0 0) s (nextS r s g left).1 0)
  x0 : 0 ≤ (ticksS r (appS (lostB pick left (nextS r s g left).1 0 0) s (nextS r s g left).1 0) g (left - (lostB pick left (nextS r s g left).1 0 0).length)).1
  x1 : (ticksS r (appS (lostB pick left (nextS r s g left).1 0 0) s (nextS r s g left).1 0) g (left - (lostB pick left (nextS r s g left).1 0 0).length)).1 ≤ n - 1
theorem rg_of {r : Rig} {s : List Int} (h : Sf r s) : RgOk r.1 r.2 := ⟨(checkS_ok h.ck).1, (checkS_ok h.ck).2.1, h.pb⟩
theorem rndB {r : Rig} {g : List (Int × Int)} {s : List Int} {n left pick : Int} (hs : Sf r s) (hg : goalS r g = 0) (h0 : 0 ≤ left) (h1 : left ≤ 2) (hn0 : 0 < n) (hn1 : n ≤ 64) (ht : tickD r.1 r.2 g left.toNat s = n) : RndB r g s n left pick := by
  have hr := rg_of hs
  obtain ⟨l, rfl⟩ : ∃ l : Nat, left = l := ⟨left.toNat, by omega⟩
  rw [Int.toNat_natCast] at ht
  obtain ⟨d, rfl⟩ : ∃ d : Nat, n = ((d + 1 : Nat) : Int) := ⟨(n - 1).toNat, by omega⟩
  have hnx := nextS_of (fun g h => (goalS_ok h).1) hg (l := l) (by omega) hs
  rw [ht, if_neg (by omega), if_neg (by omega), show ((d + 1 : Nat) : Int) - 1 = (d : Int) by omega] at hnx
  obtain ⟨b1, b2, b3⟩ := best_ok hr (g := g) (l := l) (by omega) hs.vs (d := d) (by omega) ht
  have e2 : (nextS r s g l).2 = 0 := by rw [hnx]
  have e1 : (nextS r s g l).1 = bestS r.1 r.2 (cntTk r.1 r.2 g l) s l d := by rw [hnx]
  rw [← e1] at b1 b2 b3
  clear hnx e1
  generalize hN : nextS r s g l = N at *
  obtain ⟨m, e⟩ := N
  dsimp only at *
  have sl := hs.vs.sl
  have ml : m.length = r.1.length := (allM_len b1).trans sl
  have hM := allM_is b1
  have l4 := (checkS_ok hs.ck).2.1
  obtain ⟨bl, c1, c2, c3⟩ := lostB_eq (pick := pick) (left := (l : Int)) m 0 0
  have c3' := c3 (by omega)
  have hrg := lostG_rng (bl := bl) (m := m) (i := 0)
  have hll := lostG_len (bl := bl) (m := m) (i := 0)
  obtain ⟨t1, t2, t3⟩ := stepS_eq (lost := lostB pick l m 0 0) hs ml hM b2 (fun x hx => by
    rw [c2] at hx
    have := hrg x hx
    omega)
  have hsf := after_ok hs ml hM b2 t2 (fun i hi => by
    rw [t3 i hi]
    split
    · exact .inr rfl
    · exact .inl rfl)
  have hnext := lost_next (i := 0) (l := l) (bl := bl) (s := s) (m := m) (by omega) c1 (small_of hs.pb hs.vs.sl hs.vs.si hM) (by rw [← c2]; omega)
  have hre := b3 _ hnext
  rw [← c2] at hre
  have htk : 0 ≤ tickD r.1 r.2 g (l - (lostB pick l m 0 0).length) (appS (lostB pick l m 0 0) s m 0) ∧ tickD r.1 r.2 g (l - (lostB pick l m 0 0).length) (appS (lostB pick l m 0 0) s m 0) ≤ (d : Int) := (tick_le (ps := r.1) (bs := r.2) (g := g) (l := l - (lostB pick l m 0 0).length) (s := appS (lostB pick l m 0 0) s m 0) (d := d) (by clear ht hre; omega)).2 hre
  clear ht hre
  have hcast : ((l : Int) - ((lostB pick l m 0 0).length : Int)) = ((l - (lostB pick l m 0 0).length : Nat) : Int) := by omega
  have hts := ticksS_sf hg (l := l - (lostB pick l m 0 0).length) (by omega) hsf
  have c4 : (lostB pick l m 0 0).length ≤ 4 := by rw [c2]; omega
  have c5 : (0 : Int) ≤ (l : Int) - ((lostB pick l m 0 0).length : Int) := by omega
  generalize hT : tickD r.1 r.2 g (l - (lostB pick l m 0 0).length) (appS (lostB pick l m 0 0) s m 0) = T at *
  rw [if_neg (by omega)] at hts
  constructor
  · rw [hN]; exact e2
  · rw [hN]; exact ml
  · rw [hN]; exact t1
  · rw [hN]; exact hsf
  · rw [hN]; exact c4
  · rw [hN]; exact (by omega : (l : Int) - ((lostB pick l m 0 0).length : Int) ≤ 2)
  · rw [hN]; exact c5
  · rw [hN]; dsimp only; rw [hcast, hts]
  · rw [hN]; dsimp only; rw [hcast, hts, Int.toNat_natCast, hT]
  · rw [hN]; dsimp only; rw [hcast, hts]; exact htk.1
  · rw [hN]; dsimp only; rw [hcast, hts]
    have := htk.2
    show T ≤ ((d + 1 : Nat) : Int) - 1
    omega
theorem rb_ok {r : Rig} {g : List (Int × Int)} {pk : List Int} (hg : goalS r g = 0) : ∀ (f : Nat) (s : List Int) (n left k : Int), n ≤ f → 0 ≤ n → n ≤ 64 → 0 ≤ left → left ≤ 2 → Sf r s → tickD r.1 r.2 g left.toNat s = n →
    inG (rbR r g pk f s n left k) g = true ∧ (rbR r g pk f s n left k).length = r.1.length := by
  intro f
  induction f with
  | zero =>
    intro s n left k h1 h2 _ _ _ hs ht
    have e : n = 0 := by clear ht; omega
    rw [e] at ht
    exact ⟨tick_zero ht, hs.vs.sl⟩
  | succ f ih =>
    intro s n left k h1 h2 h3 h4 h5 hs ht
    by_cases c : 0 < n
    · have R := rndB (pick := if k < pk.length then pk.getD k.toNat 0 else 0) hs hg h4 h5 c h3 ht
      rw [rbR, if_pos c]
      have x1 := R.x1
      have l0 := R.l0
      have l2 := R.l2
      have x0 := R.x0
      have t1 := R.t1
      have sf := R.sf
      clear R ht
      generalize (ticksS r (appS (lostB (if k < pk.length then pk.getD k.toNat 0 else 0) left (nextS r s g left).1 0 0) s (nextS r s g left).1 0) g (left - (lostB (if k < pk.length then pk.getD k.toNat 0 else 0) left (nextS r s g left).1 0 0).length)).1 = X at *
      generalize appS (lostB (if k < pk.length then pk.getD k.toNat 0 else 0) left (nextS r s g left).1 0 0) s (nextS r s g left).1 0 = t at *
      generalize left - ((lostB (if k < pk.length then pk.getD k.toNat 0 else 0) left (nextS r s g left).1 0 0).length : Int) = left' at *
      refine ih t X left' (k + 1) ?_ x0 ?_ l0 ?_ sf t1.symm
      · clear t1; omega
      · clear t1; omega
      · exact l2
    · rw [rbR_end c]
      have e : n = 0 := by clear ht; omega
      rw [e] at ht
      exact ⟨tick_zero ht, hs.vs.sl⟩
/-- A round of the first part. -/
theorem rndA {r : Rig} {s m : List Int} (kk : Int) (hs : Sf r s) (hm : m ∈ allM s.length) (ho : okM r.1 r.2 s m = true) :
    stepS r s m (lostA kk m) = (appS (lostA kk m) s m 0, 0) ∧ Sf r (appS (lostA kk m) s m 0) ∧ (lostA kk m).length ≤ 4 := by
  have sl := hs.vs.sl
  have ml : m.length = r.1.length := (allM_len hm).trans sl
  have hM := allM_is hm
  have l4 := (checkS_ok hs.ck).2.1
  have hrg := lostG_rng (bl := bitsA kk m.length 0) (m := m) (i := 0)
  have hll := lostG_len (bl := bitsA kk m.length 0) (m := m) (i := 0)
  obtain ⟨t1, t2, t3⟩ := stepS_eq (lost := lostA kk m) hs ml hM ho (fun x hx => by
    have := hrg x hx
    omega)
  refine ⟨t1, after_ok hs ml hM ho t2 (fun i hi => by
    rw [t3 i hi]
    split
    · exact .inr rfl
    · exact .inl rfl), ?_⟩
  unfold lostA
  omega
def chkBits : Bool := (List.range 4).all fun k => (allB k).all fun b => decide (0 ≤ setB b) && decide (setB b < 8) && (bitsA (setB b) k 0 == b)
theorem chkBits_ok : chkBits = true := by kernel_rfl
theorem bits_set {k : Nat} {b : List Bool} (hk : k ≤ 3) (h : b.length = k) : 0 ≤ setB b ∧ setB b < 8 ∧ bitsA (setB b) k 0 = b := by
  have h1 := chkBits_ok
  unfold chkBits at h1
  rw [List.all_eq_true] at h1
  have h2 := h1 k (List.mem_range.2 (by omega))
  rw [List.all_eq_true] at h2
  have h3 := h2 b (allB_mem h)
  rw [Bool.and_eq_true, Bool.and_eq_true, decide_eq_true_eq, decide_eq_true_eq] at h3
  exact ⟨h3.1.1, h3.1.2, eq_of_beq h3.2⟩
/-- No allowed move makes sure of less. -/
theorem sure_not {r : Rig} {g : List (Int × Int)} {s m : List Int} {l : Nat} (hs : Sf r s) (hg : goalS r g = 0) (h3 : r.1.length ≤ 3) (hl : l ≤ 2) (hm : m ∈ allM s.length) (ho : okM r.1 r.2 s m = true) (hn : 0 < tickD r.1 r.2 g l s)
    (h1 : (raR r g l s m 8 0 (0, true)).2 = true) : ¬ (raR r g l s m 8 0 (0, true)).1 < tickD r.1 r.2 g l s - 1 := by
  intro hlt
  obtain ⟨a1, a2⟩ := raR_ok (r := r) (g := g) (losses := (l : Int)) (s := s) (m := m) 8 0 (0, true)
  obtain ⟨_, a3⟩ := a2 h1
  dsimp only at a1
  have hr := tickD_rng r.1 r.2 g l s
  have sl := hs.vs.sl
  have ml : m.length = r.1.length := (allM_len hm).trans sl
  generalize hT : tickD r.1 r.2 g l s = T at *
  generalize hw : (raR r g l s m 8 0 (0, true)).1 = w at *
  obtain ⟨d, rfl⟩ : ∃ d : Nat, w = d := ⟨w.toNat, by omega⟩
  have := tick_step (g := g) (l := l) (d := d) hs.sf hm ho (by omega) (fun y hy => by
    obtain ⟨bl, b1, b2, rfl⟩ := next_lost (i := 0) (by omega) (small_of hs.pb hs.vs.sl hs.vs.si (allM_is hm)) hy
    obtain ⟨c0, c1, c2⟩ := bits_set (by omega) b1
    have el : lostA (setB bl) m = lostG bl m 0 := by unfold lostA; rw [c2]
    have := a3 (setB bl) c0 (by omega) (by rw [el]; omega)
    obtain ⟨q1, q2, q3⟩ := rndA (setB bl) hs hm ho
    rw [el] at this q2
    have hcast : ((l : Int) - ((lostG bl m 0).length : Int)) = ((l - (lostG bl m 0).length : Nat) : Int) := by omega
    rw [hcast, ticksS_sf hg (by omega) q2] at this
    refine (tick_le (ps := r.1) (bs := r.2) (g := g) (l := l - (lostG bl m 0).length) (s := appS (lostG bl m 0) s m 0) (d := d) (by omega)).1 ?_
    generalize tickD r.1 r.2 g (l - (lostG bl m 0).length) (appS (lostG bl m 0) s m 0) = Y at *
    by_cases z : Y < 0
    · rw [if_pos z] at this
      exact absurd this.1 (by decide)
    · rw [if_neg z] at this
      exact ⟨by omega, this.2⟩)
  rw [hT] at this
  omega
def L_rc2 : Lay := { slots := [(1, .val tI), (2, .val tIs), (8, .ptr 9274 0), (9, .val tIs), (10, .val (.sl tPart)), (11, .val tI), (14, .val tI), (15, .val .bool), (16, .val tIs), (17, .val tI), (18, .row 3 tI), (19, .val tI)], boxes := [(9274, [.val tIs, .val (.sl (.pair tI (.pair tI (.pair tI tV))))])] }
def L_rc2_0 : Lay := { slots := [(1, .val tI), (2, .val tIs), (8, .ptr 9274 0), (9, .val tIs), (10, .val (.sl tPart)), (11, .val tI), (14, .val tI), (15, .val .bool), (16, .val tIs), (17, .val tI), (18, .row 3 tI)], boxes := [(9274, [.val tIs, .val (.sl (.pair tI (.pair tI (.pair tI tV))))])] }
def X_rc2 : Exit → St → Option Lay
  | .exit 2, _ => some L_rc2_0
  | _, _ => none
abbrev C_rc2 : Code := loopC (inner (loopC (bodyOf Try.f12) 0)) 2
theorem B_rc2 (L : Int) (pk s : List Int) (g : List (Int × Int)) (n w : Int) (su : Bool) (m : List Int) (kk : Int) (lost : List Int) (i : Int) (ps : List Int) (bs : List (Int × (Int × (Int × V)))) : loopBodyA (P := P) [] (lpOf []) [] 274 noU (inner C_rc2) L_rc2 X_rc2 (α := Int × List Int × Unit × List Int × List (Int × Int) × Int × Int × Bool × List Int × Int × List Int × Int × List Int × List (Int × (Int × (Int × V))) × Unit) (fun x => x) (fun x => x) (L, pk, (), s, g, n, w, su, m, kk, lost, i, ps, bs, ()) =
  Tree.cond (decide (i < (↑(List.length s) : Int))) (Tree.need ((0 : Int) ≤ i) (Tree.need ((2 : Int) ≠ (0 : Int)) (Tree.cond (Int.tmod (shrI IntKind.i64 kk i) (2 : Int) == (1 : Int)) (Tree.need ((0 : Int) ≤ i ∧ i < (↑(List.length m) : Int)) (Tree.cond (List.getD m (Int.toNat i) (0 : Int) != (0 : Int)) (Tree.need ((List.length lost + List.length [i]) * (8 : Nat) ≤ (140737488355328 : Nat)) (Tree.leaf (Sum.inl (L, pk, PUnit.unit, s, g, n, w, su, m, kk, lost ++ [i], IntKind.wrap IntKind.i64 (i + (1 : Int)), ps, bs, PUnit.unit)))) (Tree.leaf (Sum.inl (L, pk, PUnit.unit, s, g, n, w, su, m, kk, lost, IntKind.wrap IntKind.i64 (i + (1 : Int)), ps, bs, PUnit.unit))))) (Tree.leaf (Sum.inl (L, pk, PUnit.unit, s, g, n, w, su, m, kk, lost, IntKind.wrap IntKind.i64 (i + (1 : Int)), ps, bs, PUnit.unit)))))) (Tree.leaf (Sum.inr (Exit.exit (2 : Nat), Lay.st L_rc2_0 noU (L, pk, PUnit.unit, s, g, n, w, su, m, kk, lost, ps, bs, PUnit.unit)))) := by kernel_rfl

def inv_rc2 : Int × List Int × Unit × List Int × List (Int × Int) × Int × Int × Bool × List Int × Int × List Int × Int × List Int × List (Int × (Int × (Int × V))) × Unit → Prop := fun (L, pk, (), s, g, n, w, su, m, kk, lost, i, ps, bs, ()) => 0 ≤ i ∧ i ≤ s.length ∧ s.length ≤ 4 ∧ m.length = s.length ∧ (lost.length : Int) ≤ i
def O_rc2 : Int × List Int × Unit × List Int × List (Int × Int) × Int × Int × Bool × List Int × Int × List Int × Int × List Int × List (Int × (Int × (Int × V))) × Unit → Tree (Exit × St) := fun (L, pk, (), s, g, n, w, su, m, kk, lost, i, ps, bs, ()) => (.leaf (.exit 2, L_rc2_0.st noU (L, pk, (), s, g, n, w, su, m, kk, (lost ++ lostG (bitsA kk ((s.length : Int) - i).toNat i) (m.drop i.toNat) i), ps, bs, ())))
def R_rc2 : LRun := runOf 274 L_rc2 (fun x => x) (inv_rc2) (O_rc2)
theorem K_rc2 : LoopOk P [] 274 none noU C_rc2 (R_rc2) := by
  refine loop_of hm (cx := []) [] (xl := X_rc2) (α := Int × List Int × Unit × List Int × List (Int × Int) × Int × Int × Bool × List Int × Int × List Int × Int × List Int × List (Int × (Int × (Int × V))) × Unit) (fun x => x) (fun (L, pk, (), s, g, n, w, su, m, kk, lost, i, ps, bs, ()) => ((s.length : Int) - i).toNat) (fun _ => rfl) (by kernel_rfl) (by kernel_rfl) ?_ (by kernel_rfl) trivial ?_
  · intro e S L' h
    unfold X_rc2 at h
    split at h <;> first | (cases h; done) | (cases h; kernel_rfl) | (rcases bif_some h with h | h <;> cases h <;> kernel_rfl)
  · rintro ⟨L, pk, ⟨⟩, s, g, n, w, su, m, kk, lost, i, ps, bs, ⟨⟩⟩ hinv Q hQ
    refine hold_of_eq (B_rc2 L pk s g n w su m kk lost i ps bs) ?_

    obtain ⟨h0, h1, h2, h3, h4⟩ := hinv
    rw [W_id (n := i + 1) (by omega) (by omega)]
    have hQ' : Q (.exit 2, L_rc2_0.st noU (L, pk, (), s, g, n, w, su, m, kk, lost ++ lostG (bitsA kk ((s.length : Int) - i).toNat i) (m.drop i.toNat) i, ps, bs, ())) := hQ
    refine ⟨fun c1 => ?_, fun c1 => ?_⟩
    · have d1 : i < s.length := of_decide_eq_true c1
      have hm : ((s.length : Int) - (i + 1)).toNat < ((s.length : Int) - i).toNat := by omega
      have d2 : i < m.length := by omega
      rw [show ((s.length : Int) - i).toNat = ((s.length : Int) - (i + 1)).toNat + 1 by omega, bitsA, drop_step (0 : Int) h0 d2, lostG] at hQ'
      have inv' : inv_rc2 (L, pk, (), s, g, n, w, su, m, kk, lost, i + 1, ps, bs, ()) := ⟨by omega, by omega, h2, h3, by omega⟩
      refine ⟨h0, by decide, fun c2 => ⟨⟨h0, d2⟩, fun c3 => ⟨by show (lost.length + 1) * 8 ≤ 140737488355328; omega, ⟨⟨by omega, by omega, h2, h3, ?_⟩, hm⟩, ?_⟩, fun c3 => ⟨⟨inv', hm⟩, ?_⟩⟩, fun c2 => ⟨⟨inv', hm⟩, ?_⟩⟩
      · show ((lost ++ [i]).length : Int) ≤ i + 1
        rw [List.length_append]; show ((lost.length + 1 : Nat) : Int) ≤ _; omega
      · rw [if_pos (by rw [show (Int.tmod (shrI .i64 kk i) 2 == 1) = true from c2, show (m.getD i.toNat 0 != 0) = true from c3]; rfl), List.append_cons] at hQ'
        exact hQ'
      · rw [if_neg (by rw [show (m.getD i.toNat 0 != 0) = false from c3, Bool.and_false]; simp)] at hQ'
        exact hQ'
      · rw [if_neg (by rw [show (Int.tmod (shrI .i64 kk i) 2 == 1) = false from c2, Bool.false_and]; simp)] at hQ'
        exact hQ'
    · have d1 : ¬ i < s.length := of_decide_eq_false c1
      rw [show ((s.length : Int) - i).toNat = 0 by omega, bitsA, lostG, List.append_nil] at hQ'
      · exact hQ'
      · intro _ _ _ _ h; cases h
def L_rc0 : Lay := { slots := [(1, .val tI), (2, .val tIs), (8, .ptr 9274 0), (9, .val tIs), (10, .val (.sl tPart)), (11, .val tI), (14, .val tI), (15, .val .bool), (16, .val tIs), (17, .val tI)], boxes := [(9274, [.val tIs, .val (.sl (.pair tI (.pair tI (.pair tI tV))))])] }
def L_rc0_0 : Lay := { slots := [(6, .val .bool)] }
def L_rc0_1 : Lay := { slots := [(1, .val tI), (2, .val tIs), (8, .ptr 9274 0), (9, .val tIs), (10, .val (.sl tPart)), (11, .val tI), (14, .val tI), (15, .val .bool)], boxes := [(9274, [.val tIs, .val (.sl (.pair tI (.pair tI (.pair tI tV))))])] }
def X_rc0 : Exit → St → Option Lay
  | .ret, _ => some L_rc0_0
  | .exit 0, _ => some L_rc0_1
  | _, _ => none
abbrev C_rc0 : Code := loopC (bodyOf Try.f12) 0
theorem B_rc0 (L : Int) (pk s : List Int) (g : List (Int × Int)) (n w : Int) (su : Bool) (m : List Int) (kk : Int) (ps : List Int) (bs : List (Int × (Int × (Int × V)))) : loopBodyA (P := P) [c_Step.gc, c_Ticks.gc] (lpOf [(2, R_rc2)]) [] 274 noU (inner C_rc0) L_rc0 X_rc0 (α := Int × List Int × Unit × List Int × List (Int × Int) × Int × Int × Bool × List Int × Int × List Int × List (Int × (Int × (Int × V))) × Unit) (fun x => x) (fun x => x) (L, pk, (), s, g, n, w, su, m, kk, ps, bs, ()) =
  Tree.cond (decide (kk < (8 : Int))) (Tree.cond (decide (n > (0 : Int))) (Tree.need (inv_rc2 (L, pk, (), s, g, n, w, su, m, kk, [], (0 : Int), ps, bs, ())) (Tree.cond (decide ((↑(List.length (lostG (bitsA kk (Int.toNat ((↑(List.length s) : Int) - (0 : Int))) (0 : Int)) (List.drop (Int.toNat (0 : Int)) m) (0 : Int))) : Int) > L)) (Tree.leaf (Sum.inl (L, pk, PUnit.unit, s, g, n, w, su, m, IntKind.wrap IntKind.i64 (kk + (1 : Int)), ps, bs, PUnit.unit))) (Tree.need ((↑(List.length m) : Int) < (2 : Int) ^ (62 : Nat) ∧ (↑(List.length (lostG (bitsA kk (Int.toNat ((↑(List.length s) : Int) - (0 : Int))) (0 : Int)) (List.drop (Int.toNat (0 : Int)) m) (0 : Int))) : Int) < (2 : Int) ^ (62 : Nat)) (Tree.cond ((stepS (ps, bs) s m (lostG (bitsA kk (Int.toNat ((↑(List.length s) : Int) - (0 : Int))) (0 : Int)) (List.drop (Int.toNat (0 : Int)) m) (0 : Int))).snd != (0 : Int)) (Tree.leaf (Sum.inr (Exit.ret, Lay.st L_rc0_0 noU (false, PUnit.unit)))) (Tree.cond su (Tree.leaf (Sum.inl (L, pk, PUnit.unit, s, g, n, maxI w (ticksS (ps, bs) (stepS (ps, bs) s m (lostG (bitsA kk (Int.toNat ((↑(List.length s) : Int) - (0 : Int))) (0 : Int)) (List.drop (Int.toNat (0 : Int)) m) (0 : Int))).fst g (IntKind.wrap IntKind.i64 (L - (↑(List.length (lostG (bitsA kk (Int.toNat ((↑(List.length s) : Int) - (0 : Int))) (0 : Int)) (List.drop (Int.toNat (0 : Int)) m) (0 : Int))) : Int)))).fst, (ticksS (ps, bs) (stepS (ps, bs) s m (lostG (bitsA kk (Int.toNat ((↑(List.length s) : Int) - (0 : Int))) (0 : Int)) (List.drop (Int.toNat (0 : Int)) m) (0 : Int))).fst g (IntKind.wrap IntKind.i64 (L - (↑(List.length (lostG (bitsA kk (Int.toNat ((↑(List.length s) : Int) - (0 : Int))) (0 : Int)) (List.drop (Int.toNat (0 : Int)) m) (0 : Int))) : Int)))).snd == (0 : Int), m, IntKind.wrap IntKind.i64 (kk + (1 : Int)), ps, bs, PUnit.unit))) (Tree.leaf (Sum.inl (L, pk, PUnit.unit, s, g, n, maxI w (ticksS (ps, bs) (stepS (ps, bs) s m (lostG (bitsA kk (Int.toNat ((↑(List.length s) : Int) - (0 : Int))) (0 : Int)) (List.drop (Int.toNat (0 : Int)) m) (0 : Int))).fst g (IntKind.wrap IntKind.i64 (L - (↑(List.length (lostG (bitsA kk (Int.toNat ((↑(List.length s) : Int) - (0 : Int))) (0 : Int)) (List.drop (Int.toNat (0 : Int)) m) (0 : Int))) : Int)))).fst, false, m, IntKind.wrap IntKind.i64 (kk + (1 : Int)), ps, bs, PUnit.unit)))))))) (Tree.leaf (Sum.inr (Exit.exit (0 : Nat), Lay.st L_rc0_1 noU (L, pk, PUnit.unit, s, g, n, w, su, ps, bs, PUnit.unit))))) (Tree.leaf (Sum.inr (Exit.exit (0 : Nat), Lay.st L_rc0_1 noU (L, pk, PUnit.unit, s, g, n, w, su, ps, bs, PUnit.unit)))) := by kernel_rfl

def inv_rc0 : Int × List Int × Unit × List Int × List (Int × Int) × Int × Int × Bool × List Int × Int × List Int × List (Int × (Int × (Int × V))) × Unit → Prop := fun (L, pk, (), s, g, n, w, su, m, kk, ps, bs, ()) => 0 ≤ kk ∧ kk ≤ 8 ∧ 0 ≤ L ∧ L ≤ 2 ∧ Sf (ps, bs) s ∧ m ∈ allM s.length ∧ okM ps bs s m = true
def O_rc0 : Int × List Int × Unit × List Int × List (Int × Int) × Int × Int × Bool × List Int × Int × List Int × List (Int × (Int × (Int × V))) × Unit → Tree (Exit × St) := fun (L, pk, (), s, g, n, w, su, m, kk, ps, bs, ()) => (.leaf (.exit 0, L_rc0_1.st noU (L, pk, (), s, g, n, ((raC (ps, bs) g L s m n (8 - kk).toNat kk (w, su)).1), ((raC (ps, bs) g L s m n (8 - kk).toNat kk (w, su)).2), ps, bs, ())))
def R_rc0 : LRun := runOf 274 L_rc0 (fun x => x) (inv_rc0) (O_rc0)
theorem K_rc0 : LoopOk P [] 274 none noU C_rc0 (R_rc0) := by
  refine loop_of hm (cx := [c_Step.gc, c_Ticks.gc]) [(2, R_rc2)] (xl := X_rc0) (α := Int × List Int × Unit × List Int × List (Int × Int) × Int × Int × Bool × List Int × Int × List Int × List (Int × (Int × (Int × V))) × Unit) (fun x => x) (fun (L, pk, (), s, g, n, w, su, m, kk, ps, bs, ()) => (8 - kk).toNat) (fun _ => rfl) (by kernel_rfl) (by kernel_rfl) ?_ (by kernel_rfl) ⟨K_rc2, trivial⟩ ?_
  · intro e S L' h
    unfold X_rc0 at h
    split at h <;> first | (cases h; done) | (cases h; kernel_rfl) | (rcases bif_some h with h | h <;> cases h <;> kernel_rfl)
  · rintro ⟨L, pk, ⟨⟩, s, g, n, w, su, m, kk, ps, bs, ⟨⟩⟩ hinv Q hQ
    refine hold_of_eq (B_rc0 L pk s g n w su m kk ps bs) ?_

    obtain ⟨h0, h1, h2, h3, hs, hm0, ho⟩ := hinv
    rw [W_id (n := kk + 1) (by omega) (by omega)]
    have hQ' : Q (.exit 0, L_rc0_1.st noU (L, pk, (), s, g, n, (raC (ps, bs) g L s m n (8 - kk).toNat kk (w, su)).1, (raC (ps, bs) g L s m n (8 - kk).toNat kk (w, su)).2, ps, bs, ())) := hQ
    refine ⟨fun c1 => ⟨fun c2 => ?_, fun c2 => ?_⟩, fun c1 => ?_⟩
    · have d1 : kk < 8 := of_decide_eq_true c1
      have d2 : 0 < n := of_decide_eq_true c2
      have hm : (8 - (kk + 1)).toNat < (8 - kk).toNat := by omega
      have sl := hs.vs.sl
      have ml := allM_len hm0
      have l4 := (checkS_ok hs.ck).2.1
      dsimp only at sl l4
      have el : lostG (bitsA kk s.length 0) m 0 = lostA kk m := by unfold lostA; rw [ml]
      simp only [Int.toNat_zero, List.drop_zero, Int.sub_zero, Int.toNat_natCast]
      rw [el]
      obtain ⟨q1, q2, q3⟩ := rndA kk hs hm0 ho
      rw [q1]
      dsimp only
      rw [show (8 - kk).toNat = (8 - (kk + 1)).toNat + 1 by omega, raC_step d2] at hQ'
      have inv' : 0 ≤ kk + 1 ∧ kk + 1 ≤ 8 ∧ 0 ≤ L ∧ L ≤ 2 ∧ Sf (ps, bs) s ∧ m ∈ allM s.length ∧ okM ps bs s m = true := ⟨by omega, by omega, h2, h3, hs, hm0, ho⟩
      rw [W_id (n := L - ((lostA kk m).length : Int)) (by omega) (by omega)]
      refine ⟨⟨by decide, by omega, by omega, ml, by decide⟩, fun c3 => ⟨⟨inv', hm⟩, ?_⟩, fun c3 => ⟨⟨by omega, by omega⟩, fun c4 => (by cases c4), fun c4 => ⟨fun c5 => ⟨⟨inv', hm⟩, ?_⟩, fun c5 => ⟨⟨inv', hm⟩, ?_⟩⟩⟩⟩
      · have d3 : ((lostA kk m).length : Int) > L := of_decide_eq_true c3
        rw [if_pos d3] at hQ'
        exact hQ'
      · have d3 : ¬ ((lostA kk m).length : Int) > L := of_decide_eq_false c3
        rw [if_neg d3, show su = true from c5, Bool.true_and] at hQ'
        exact hQ'
      · have d3 : ¬ ((lostA kk m).length : Int) > L := of_decide_eq_false c3
        rw [if_neg d3, show su = false from c5, Bool.false_and] at hQ'
        exact hQ'
    · have d2 : ¬ 0 < n := of_decide_eq_false c2
      rw [raC_no d2] at hQ'
      exact hQ'
    · have d1 : ¬ kk < 8 := of_decide_eq_false c1
      rw [show (8 - kk).toNat = 0 by omega, raC_end] at hQ'
      exact hQ'
def L_rc6 : Lay := { slots := [(2, .val tIs), (8, .ptr 9274 0), (9, .val tIs), (10, .val (.sl tPart)), (11, .val tI), (24, .val tI), (25, .val tI), (26, .val tIs), (28, .row 3 tI), (29, .val tI), (30, .val tI)], boxes := [(9274, [.val tIs, .val (.sl (.pair tI (.pair tI (.pair tI tV))))])] }
def L_rc6_0 : Lay := { slots := [(2, .val tIs), (8, .ptr 9274 0), (9, .val tIs), (10, .val (.sl tPart)), (11, .val tI), (24, .val tI), (25, .val tI), (26, .val tIs), (28, .row 3 tI)], boxes := [(9274, [.val tIs, .val (.sl (.pair tI (.pair tI (.pair tI tV))))])] }
def X_rc6 : Exit → St → Option Lay
  | .exit 6, _ => some L_rc6_0
  | _, _ => none
abbrev C_rc6 : Code := loopC (inner (loopC (bodyOf Try.f12) 4)) 6
theorem B_rc6 (pk s : List Int) (g : List (Int × Int)) (n left k : Int) (nm lo2 : List Int) (pick j : Int) (ps : List Int) (bs : List (Int × (Int × (Int × V)))) : loopBodyA (P := P) [c_Mod.gc] (lpOf []) [] 274 noU (inner C_rc6) L_rc6 X_rc6 (α := List Int × Unit × List Int × List (Int × Int) × Int × Int × Int × List Int × List Int × Int × Int × List Int × List (Int × (Int × (Int × V))) × Unit) (fun x => x) (fun x => x) (pk, (), s, g, n, left, k, nm, lo2, pick, j, ps, bs, ()) =
  Tree.cond (decide (j < (↑(List.length s) : Int))) (Tree.cond (decide ((↑(List.length lo2) : Int) < left)) (Tree.need ((0 : Int) ≤ j ∧ j < (↑(List.length nm) : Int)) (Tree.cond (List.getD nm (Int.toNat j) (0 : Int) != (0 : Int)) (Tree.need ((0 : Int) ≤ j) (Tree.need ((0 : Int) < (2 : Int) ∧ R64 (2 : Int)) (Tree.cond (shrI IntKind.i64 pick j % (2 : Int) == (1 : Int)) (Tree.need ((List.length lo2 + List.length [j]) * (8 : Nat) ≤ (140737488355328 : Nat)) (Tree.leaf (Sum.inl (pk, PUnit.unit, s, g, n, left, k, nm, lo2 ++ [j], pick, IntKind.wrap IntKind.i64 (j + (1 : Int)), ps, bs, PUnit.unit)))) (Tree.leaf (Sum.inl (pk, PUnit.unit, s, g, n, left, k, nm, lo2, pick, IntKind.wrap IntKind.i64 (j + (1 : Int)), ps, bs, PUnit.unit)))))) (Tree.leaf (Sum.inl (pk, PUnit.unit, s, g, n, left, k, nm, lo2, pick, IntKind.wrap IntKind.i64 (j + (1 : Int)), ps, bs, PUnit.unit))))) (Tree.leaf (Sum.inr (Exit.exit (6 : Nat), Lay.st L_rc6_0 noU (pk, PUnit.unit, s, g, n, left, k, nm, lo2, ps, bs, PUnit.unit))))) (Tree.leaf (Sum.inr (Exit.exit (6 : Nat), Lay.st L_rc6_0 noU (pk, PUnit.unit, s, g, n, left, k, nm, lo2, ps, bs, PUnit.unit)))) := by kernel_rfl

def inv_rc6 : List Int × Unit × List Int × List (Int × Int) × Int × Int × Int × List Int × List Int × Int × Int × List Int × List (Int × (Int × (Int × V))) × Unit → Prop := fun (pk, (), s, g, n, left, k, nm, lo2, pick, j, ps, bs, ()) => 0 ≤ j ∧ j ≤ s.length ∧ s.length ≤ 4 ∧ nm.length = s.length ∧ (lo2.length : Int) ≤ j
def O_rc6 : List Int × Unit × List Int × List (Int × Int) × Int × Int × Int × List Int × List Int × Int × Int × List Int × List (Int × (Int × (Int × V))) × Unit → Tree (Exit × St) := fun (pk, (), s, g, n, left, k, nm, lo2, pick, j, ps, bs, ()) => (.leaf (.exit 6, L_rc6_0.st noU (pk, (), s, g, n, left, k, nm, (lo2 ++ lostB pick left (nm.drop j.toNat) j lo2.length), ps, bs, ())))
def R_rc6 : LRun := runOf 274 L_rc6 (fun x => x) (inv_rc6) (O_rc6)
theorem K_rc6 : LoopOk P [] 274 none noU C_rc6 (R_rc6) := by
  refine loop_of hm (cx := [c_Mod.gc]) [] (xl := X_rc6) (α := List Int × Unit × List Int × List (Int × Int) × Int × Int × Int × List Int × List Int × Int × Int × List Int × List (Int × (Int × (Int × V))) × Unit) (fun x => x) (fun (pk, (), s, g, n, left, k, nm, lo2, pick, j, ps, bs, ()) => ((s.length : Int) - j).toNat) (fun _ => rfl) (by kernel_rfl) (by kernel_rfl) ?_ (by kernel_rfl) trivial ?_
  · intro e S L' h
    unfold X_rc6 at h
    split at h <;> first | (cases h; done) | (cases h; kernel_rfl) | (rcases bif_some h with h | h <;> cases h <;> kernel_rfl)
  · rintro ⟨pk, ⟨⟩, s, g, n, left, k, nm, lo2, pick, j, ps, bs, ⟨⟩⟩ hinv Q hQ
    refine hold_of_eq (B_rc6 pk s g n left k nm lo2 pick j ps bs) ?_

    obtain ⟨h0, h1, h2, h3, h4⟩ := hinv
    rw [W_id (n := j + 1) (by omega) (by omega)]
    have hQ' : Q (.exit 6, L_rc6_0.st noU (pk, (), s, g, n, left, k, nm, lo2 ++ lostB pick left (nm.drop j.toNat) j lo2.length, ps, bs, ())) := hQ
    refine ⟨fun c1 => ?_, fun c1 => ?_⟩
    · have d1 : j < s.length := of_decide_eq_true c1
      have hm : ((s.length : Int) - (j + 1)).toNat < ((s.length : Int) - j).toNat := by omega
      have d2 : j < nm.length := by omega
      rw [drop_step (0 : Int) h0 d2, lostB] at hQ'
      have inv' : inv_rc6 (pk, (), s, g, n, left, k, nm, lo2, pick, j + 1, ps, bs, ()) := ⟨by omega, by omega, h2, h3, by omega⟩
      refine ⟨fun c2 => ⟨⟨h0, d2⟩, fun c3 => ⟨h0, ⟨by decide, by decide, by decide⟩, fun c4 => ⟨by show (lo2.length + 1) * 8 ≤ 140737488355328; omega, ⟨⟨by omega, by omega, h2, h3, ?_⟩, hm⟩, ?_⟩, fun c4 => ⟨⟨inv', hm⟩, ?_⟩⟩, fun c3 => ⟨⟨inv', hm⟩, ?_⟩⟩, fun c2 => ?_⟩
      · show ((lo2 ++ [j]).length : Int) ≤ j + 1
        rw [List.length_append]; show ((lo2.length + 1 : Nat) : Int) ≤ _; omega
      · rw [if_pos (of_decide_eq_true c2), if_pos (by rw [show (nm.getD j.toNat 0 != 0) = true from c3, show (shrI .i64 pick j % 2 == 1) = true from c4]; rfl), List.append_cons] at hQ'
        have e : ((lo2 ++ [j]).length : Int) = (lo2.length : Int) + 1 := by rw [List.length_append]; rfl
        rw [← e] at hQ'
        exact hQ'
      · rw [if_pos (of_decide_eq_true c2), if_neg (by rw [show (shrI .i64 pick j % 2 == 1) = false from c4, Bool.and_false]; simp)] at hQ'
        exact hQ'
      · rw [if_pos (of_decide_eq_true c2), if_neg (by rw [show (nm.getD j.toNat 0 != 0) = false from c3, Bool.false_and]; simp)] at hQ'
        exact hQ'
      · rw [if_neg (of_decide_eq_false c2), List.append_nil] at hQ'
        exact hQ'
    · have d1 : ¬ j < s.length := of_decide_eq_false c1
      rw [drop_end (l := nm) (by omega), lostB, List.append_nil] at hQ'
      exact hQ'
def L_rc4 : Lay := { slots := [(2, .val tIs), (8, .ptr 9274 0), (9, .val tIs), (10, .val (.sl tPart)), (11, .val tI), (24, .val tI), (25, .val tI)], boxes := [(9274, [.val tIs, .val (.sl (.pair tI (.pair tI (.pair tI tV))))])] }
def L_rc4_0 : Lay := { slots := [(6, .val .bool)] }
def L_rc4_1 : Lay := { slots := [(9, .val tIs), (10, .val (.sl tPart))] }
def X_rc4 : Exit → St → Option Lay
  | .ret, _ => some L_rc4_0
  | .exit 4, _ => some L_rc4_1
  | _, _ => none
abbrev C_rc4 : Code := loopC (bodyOf Try.f12) 4
theorem B_rc4 (pk s : List Int) (g : List (Int × Int)) (n left k : Int) (ps : List Int) (bs : List (Int × (Int × (Int × V)))) : loopBodyA (P := P) [c_Next.gc, c_Step.gc, c_Ticks.gc] (lpOf [(6, R_rc6)]) [] 274 noU (inner C_rc4) L_rc4 X_rc4 (α := List Int × Unit × List Int × List (Int × Int) × Int × Int × Int × List Int × List (Int × (Int × (Int × V))) × Unit) (fun x => x) (fun x => x) (pk, (), s, g, n, left, k, ps, bs, ()) =
  Tree.cond (decide (n > (0 : Int)))
  (Tree.cond ((nextS (ps, bs) s g left).snd != (0 : Int)) (Tree.leaf (Sum.inr (Exit.ret, Lay.st L_rc4_0 noU (false, PUnit.unit))))
    (Tree.cond ((↑(List.length (nextS (ps, bs) s g left).fst) : Int) != (↑(List.length s) : Int)) (Tree.leaf (Sum.inr (Exit.ret, Lay.st L_rc4_0 noU (false, PUnit.unit))))
      (Tree.cond (decide (k > (64 : Int))) (Tree.leaf (Sum.inr (Exit.ret, Lay.st L_rc4_0 noU (false, PUnit.unit))))
        (Tree.cond (decide (k < (↑(List.length pk) : Int))) (Tree.need ((0 : Int) ≤ k ∧ k < (↑(List.length pk) : Int)) (Tree.need (inv_rc6 (pk, (), s, g, n, left, k, (nextS (ps, bs) s g left).fst, [], List.getD pk (Int.toNat k) (0 : Int), (0 : Int), ps, bs, ())) (Tree.need ((↑(List.length (nextS (ps, bs) s g left).fst) : Int) < (2 : Int) ^ (62 : Nat) ∧ (↑(List.length (lostB (List.getD pk (Int.toNat k) (0 : Int)) left (List.drop (Int.toNat (0 : Int)) (nextS (ps, bs) s g left).fst) (0 : Int) (↑(0 : Nat) : Int))) : Int) < (2 : Int) ^ (62 : Nat)) (Tree.cond ((stepS (ps, bs) s (nextS (ps, bs) s g left).fst (lostB (List.getD pk (Int.toNat k) (0 : Int)) left (List.drop (Int.toNat (0 : Int)) (nextS (ps, bs) s g left).fst) (0 : Int) (↑(0 : Nat) : Int))).snd != (0 : Int)) (Tree.leaf (Sum.inr (Exit.ret, Lay.st L_rc4_0 noU (false, PUnit.unit)))) (Tree.cond ((ticksS (ps, bs) (stepS (ps, bs) s (nextS (ps, bs) s g left).fst (lostB (List.getD pk (Int.toNat k) (0 : Int)) left (List.drop (Int.toNat (0 : Int)) (nextS (ps, bs) s g left).fst) (0 : Int) (↑(0 : Nat) : Int))).fst g (IntKind.wrap IntKind.i64 (left - (↑(List.length (lostB (List.getD pk (Int.toNat k) (0 : Int)) left (List.drop (Int.toNat (0 : Int)) (nextS (ps, bs) s g left).fst) (0 : Int) (↑(0 : Nat) : Int))) : Int)))).snd != (0 : Int)) (Tree.leaf (Sum.inr (Exit.ret, Lay.st L_rc4_0 noU (false, PUnit.unit)))) (Tree.cond (decide ((ticksS (ps, bs) (stepS (ps, bs) s (nextS (ps, bs) s g left).fst (lostB (List.getD pk (Int.toNat k) (0 : Int)) left (List.drop (Int.toNat (0 : Int)) (nextS (ps, bs) s g left).fst) (0 : Int) (↑(0 : Nat) : Int))).fst g (IntKind.wrap IntKind.i64 (left - (↑(List.length (lostB (List.getD pk (Int.toNat k) (0 : Int)) left (List.drop (Int.toNat (0 : Int)) (nextS (ps, bs) s g left).fst) (0 : Int) (↑(0 : Nat) : Int))) : Int)))).fst > IntKind.wrap IntKind.i64 (n - (1 : Int)))) (Tree.leaf (Sum.inr (Exit.ret, Lay.st L_rc4_0 noU (false, PUnit.unit)))) (Tree.leaf (Sum.inl (pk, PUnit.unit, (stepS (ps, bs) s (nextS (ps, bs) s g left).fst (lostB (List.getD pk (Int.toNat k) (0 : Int)) left (List.drop (Int.toNat (0 : Int)) (nextS (ps, bs) s g left).fst) (0 : Int) (↑(0 : Nat) : Int))).fst, g, (ticksS (ps, bs) (stepS (ps, bs) s (nextS (ps, bs) s g left).fst (lostB (List.getD pk (Int.toNat k) (0 : Int)) left (List.drop (Int.toNat (0 : Int)) (nextS (ps, bs) s g left).fst) (0 : Int) (↑(0 : Nat) : Int))).fst g (IntKind.wrap IntKind.i64 (left - (↑(List.length (lostB (List.getD pk (Int.toNat k) (0 : Int)) left (List.drop (Int.toNat (0 : Int)) (nextS (ps, bs) s g left).fst) (0 : Int) (↑(0 : Nat) : Int))) : Int)))).fst, IntKind.wrap IntKind.i64 (left - (↑(List.length (lostB (List.getD pk (Int.toNat k) (0 : Int)) left (List.drop (Int.toNat (0 : Int)) (nextS (ps, bs) s g left).fst) (0 : Int) (↑(0 : Nat) : Int))) : Int)), IntKind.wrap IntKind.i64 (k + (1 : Int)), ps, bs, PUnit.unit)))))))))
          (Tree.need (inv_rc6 (pk, (), s, g, n, left, k, (nextS (ps, bs) s g left).fst, [], (0 : Int), (0 : Int), ps, bs, ())) (Tree.need ((↑(List.length (nextS (ps, bs) s g left).fst) : Int) < (2 : Int) ^ (62 : Nat) ∧ (↑(List.length (lostB (0 : Int) left (List.drop (Int.toNat (0 : Int)) (nextS (ps, bs) s g left).fst) (0 : Int) (↑(0 : Nat) : Int))) : Int) < (2 : Int) ^ (62 : Nat)) (Tree.cond ((stepS (ps, bs) s (nextS (ps, bs) s g left).fst (lostB (0 : Int) left (List.drop (Int.toNat (0 : Int)) (nextS (ps, bs) s g left).fst) (0 : Int) (↑(0 : Nat) : Int))).snd != (0 : Int)) (Tree.leaf (Sum.inr (Exit.ret, Lay.st L_rc4_0 noU (false, PUnit.unit)))) (Tree.cond ((ticksS (ps, bs) (stepS (ps, bs) s (nextS (ps, bs) s g left).fst (lostB (0 : Int) left (List.drop (Int.toNat (0 : Int)) (nextS (ps, bs) s g left).fst) (0 : Int) (↑(0 : Nat) : Int))).fst g (IntKind.wrap IntKind.i64 (left - (↑(List.length (lostB (0 : Int) left (List.drop (Int.toNat (0 : Int)) (nextS (ps, bs) s g left).fst) (0 : Int) (↑(0 : Nat) : Int))) : Int)))).snd != (0 : Int)) (Tree.leaf (Sum.inr (Exit.ret, Lay.st L_rc4_0 noU (false, PUnit.unit)))) (Tree.cond (decide ((ticksS (ps, bs) (stepS (ps, bs) s (nextS (ps, bs) s g left).fst (lostB (0 : Int) left (List.drop (Int.toNat (0 : Int)) (nextS (ps, bs) s g left).fst) (0 : Int) (↑(0 : Nat) : Int))).fst g (IntKind.wrap IntKind.i64 (left - (↑(List.length (lostB (0 : Int) left (List.drop (Int.toNat (0 : Int)) (nextS (ps, bs) s g left).fst) (0 : Int) (↑(0 : Nat) : Int))) : Int)))).fst > IntKind.wrap IntKind.i64 (n - (1 : Int)))) (Tree.leaf (Sum.inr (Exit.ret, Lay.st L_rc4_0 noU (false, PUnit.unit)))) (Tree.leaf (Sum.inl (pk, PUnit.unit, (stepS (ps, bs) s (nextS (ps, bs) s g left).fst (lostB (0 : Int) left (List.drop (Int.toNat (0 : Int)) (nextS (ps, bs) s g left).fst) (0 : Int) (↑(0 : Nat) : Int))).fst, g, (ticksS (ps, bs) (stepS (ps, bs) s (nextS (ps, bs) s g left).fst (lostB (0 : Int) left (List.drop (Int.toNat (0 : Int)) (nextS (ps, bs) s g left).fst) (0 : Int) (↑(0 : Nat) : Int))).fst g (IntKind.wrap IntKind.i64 (left - (↑(List.length (lostB (0 : Int) left (List.drop (Int.toNat (0 : Int)) (nextS (ps, bs) s g left).fst) (0 : Int) (↑(0 : Nat) : Int))) : Int)))).fst, IntKind.wrap IntKind.i64 (left - (↑(List.length (lostB (0 : Int) left (List.drop (Int.toNat (0 : Int)) (nextS (ps, bs) s g left).fst) (0 : Int) (↑(0 : Nat) : Int))) : Int)), IntKind.wrap IntKind.i64 (k + (1 : Int)), ps, bs, PUnit.unit))))))))))))
  (Tree.leaf (Sum.inr (Exit.exit (4 : Nat), Lay.st L_rc4_1 noU (s, g, PUnit.unit)))) := by kernel_rfl

def inv_rc4 : List Int × Unit × List Int × List (Int × Int) × Int × Int × Int × List Int × List (Int × (Int × (Int × V))) × Unit → Prop := fun (pk, (), s, g, n, left, k, ps, bs, ()) => 0 ≤ n ∧ n ≤ 64 ∧ 0 ≤ k ∧ k + n ≤ 64 ∧ 0 ≤ left ∧ left ≤ 2 ∧ Sf (ps, bs) s ∧ goalS (ps, bs) g = 0 ∧ tickD ps bs g left.toNat s = n
def O_rc4 : List Int × Unit × List Int × List (Int × Int) × Int × Int × Int × List Int × List (Int × (Int × (Int × V))) × Unit → Tree (Exit × St) := fun (pk, (), s, g, n, left, k, ps, bs, ()) => (.leaf (.exit 4, L_rc4_1.st noU ((rbR (ps, bs) g pk (65 - k).toNat s n left k), g, ())))
def R_rc4 : LRun := runOf 274 L_rc4 (fun x => x) (inv_rc4) (O_rc4)
theorem K_rc4 : LoopOk P [] 274 none noU C_rc4 (R_rc4) := by
  refine loop_of hm (cx := [c_Next.gc, c_Step.gc, c_Ticks.gc]) [(6, R_rc6)] (xl := X_rc4) (α := List Int × Unit × List Int × List (Int × Int) × Int × Int × Int × List Int × List (Int × (Int × (Int × V))) × Unit) (fun x => x) (fun (pk, (), s, g, n, left, k, ps, bs, ()) => n.toNat) (fun _ => rfl) (by kernel_rfl) (by kernel_rfl) ?_ (by kernel_rfl) ⟨K_rc6, trivial⟩ ?_
  · intro e S L' h
    unfold X_rc4 at h
    split at h <;> first | (cases h; done) | (cases h; kernel_rfl) | (rcases bif_some h with h | h <;> cases h <;> kernel_rfl)
  · rintro ⟨pk, ⟨⟩, s, g, n, left, k, ps, bs, ⟨⟩⟩ hinv Q hQ
    refine hold_of_eq (B_rc4 pk s g n left k ps bs) ?_

    obtain ⟨h0, h1, h2, h3, h4, h5, hs, hg, ht⟩ := hinv
    rw [W_id (n := k + 1) (by omega) (by omega), W_id (n := n - 1) (by omega) (by omega)]
    have hQ' : Q (.exit 4, L_rc4_1.st noU (rbR (ps, bs) g pk (65 - k).toNat s n left k, g, ())) := hQ
    refine ⟨fun c1 => ?_, fun c1 => ?_⟩
    · have d1 : 0 < n := of_decide_eq_true c1
      have sl := hs.vs.sl
      have l4 := (checkS_ok hs.ck).2.1
      dsimp only at sl l4
      rw [show (65 - k).toNat = (65 - (k + 1)).toNat + 1 by omega, rbR, if_pos d1] at hQ'
      rw [show ((0 : Nat) : Int) = 0 from rfl]
      simp only [Int.toNat_zero, List.drop_zero]
      have R0 := fun pick => rndB (pick := pick) hs hg h4 h5 d1 h1 ht
      have r1 := (R0 0).e0
      have r2 := (R0 0).ml
      dsimp only at r2
      refine ⟨fun c2 => ?_, fun c2 => ⟨fun c3 => ?_, fun c3 => ⟨fun c4 => ?_, fun c4 => ⟨fun c5 => ?_, fun c5 => ?_⟩⟩⟩⟩
      · rw [r1] at c2; cases c2
      · rw [r2, sl] at c3; simp at c3
      · have := of_decide_eq_true c4; omega
      · have d5 : k < pk.length := of_decide_eq_true c5
        rw [if_pos d5] at hQ'
        have R := R0 (pk.getD k.toNat 0)
        have st := R.st
        rw [st]
        dsimp only
        rw [W_id (n := left - ((lostB (pk.getD k.toNat 0) left (nextS (ps, bs) s g left).1 0 0).length : Int)) (by have := R.l0; omega) (by have := R.l2; omega)]
        have t2 := R.t2
        have x1 := R.x1
        have x0 := R.x0
        have ll := R.ll
        have mm : (n - 1).toNat < n.toNat := by omega
        refine ⟨⟨h2, d5⟩, ⟨by decide, by omega, by omega, by omega, by decide⟩, ⟨by omega, by omega⟩, fun c => (by cases c), fun _ => ⟨fun c => ?_, fun _ => ⟨fun c => ?_, fun _ => ⟨⟨⟨x0, by omega, by omega, by omega, R.l0, R.l2, R.sf, hg, R.t1.symm⟩, ?_⟩, hQ'⟩⟩⟩⟩
        · rw [t2] at c; cases c
        · have := of_decide_eq_true c; omega
        · show (ticksS (ps, bs) (appS (lostB (pk.getD k.toNat 0) left (nextS (ps, bs) s g left).1 0 0) s (nextS (ps, bs) s g left).1 0) g (left - (lostB (pk.getD k.toNat 0) left (nextS (ps, bs) s g left).1 0 0).length)).1.toNat < n.toNat
          omega
      · have d5 : ¬ k < pk.length := of_decide_eq_false c5
        rw [if_neg d5] at hQ'
        have R := R0 0
        have st := R.st
        rw [st]
        dsimp only
        rw [W_id (n := left - ((lostB 0 left (nextS (ps, bs) s g left).1 0 0).length : Int)) (by have := R.l0; omega) (by have := R.l2; omega)]
        have t2 := R.t2
        have x1 := R.x1
        have x0 := R.x0
        have ll := R.ll
        refine ⟨⟨by decide, by omega, by omega, by omega, by decide⟩, ⟨by omega, by omega⟩, fun c => (by cases c), fun _ => ⟨fun c => ?_, fun _ => ⟨fun c => ?_, fun _ => ⟨⟨⟨x0, by omega, by omega, by omega, R.l0, R.l2, R.sf, hg, R.t1.symm⟩, ?_⟩, hQ'⟩⟩⟩⟩
        · rw [t2] at c; cases c
        · have := of_decide_eq_true c; omega
        · show (ticksS (ps, bs) (appS (lostB 0 left (nextS (ps, bs) s g left).1 0 0) s (nextS (ps, bs) s g left).1 0) g (left - (lostB 0 left (nextS (ps, bs) s g left).1 0 0).length)).1.toNat < n.toNat
          omega
    · have d1 : ¬ 0 < n := of_decide_eq_false c1
      rw [rbR_end d1] at hQ'
      exact hQ'
def L_rc8 : Lay := { slots := [(9, .val tIs), (10, .val (.sl tPart)), (34, .val tI)] }
def L_rc8_0 : Lay := { slots := [(6, .val .bool)] }
def L_rc8_1 : Lay := { slots := [] }
def X_rc8 : Exit → St → Option Lay
  | .ret, _ => some L_rc8_0
  | .exit 8, _ => some L_rc8_1
  | _, _ => none
abbrev C_rc8 : Code := loopC (bodyOf Try.f12) 8
theorem B_rc8 (s : List Int) (g : List (Int × Int)) (z : Int) : loopBodyA (P := P) [] (lpOf []) [] 274 noU (inner C_rc8) L_rc8 X_rc8 (α := List Int × List (Int × Int) × Int × Unit) (fun x => x) (fun x => x) (s, g, z, ()) =
  Tree.cond (decide (z < (↑(List.length s) : Int))) (Tree.need ((0 : Int) ≤ z ∧ z < (↑(List.length s) : Int)) (Tree.need ((0 : Int) ≤ z ∧ z < (↑(List.length g) : Int)) (Tree.cond (decide (List.getD s (Int.toNat z) (0 : Int) < (List.getD g (Int.toNat z) ((0 : Int), (0 : Int))).fst)) (Tree.leaf (Sum.inr (Exit.ret, Lay.st L_rc8_0 noU (false, PUnit.unit)))) (Tree.need ((0 : Int) ≤ z ∧ z < (↑(List.length s) : Int)) (Tree.need ((0 : Int) ≤ z ∧ z < (↑(List.length g) : Int)) (Tree.cond (decide (List.getD s (Int.toNat z) (0 : Int) > (List.getD g (Int.toNat z) ((0 : Int), (0 : Int))).snd)) (Tree.leaf (Sum.inr (Exit.ret, Lay.st L_rc8_0 noU (false, PUnit.unit)))) (Tree.leaf (Sum.inl (s, g, IntKind.wrap IntKind.i64 (z + (1 : Int)), PUnit.unit))))))))) (Tree.leaf (Sum.inr (Exit.exit (8 : Nat), Lay.st L_rc8_1 noU PUnit.unit))) := by kernel_rfl

def inv_rc8 : List Int × List (Int × Int) × Int × Unit → Prop := fun (s, g, z, ()) => 0 ≤ z ∧ z ≤ s.length ∧ s.length ≤ 4 ∧ g.length = s.length ∧ inG (s.drop z.toNat) (g.drop z.toNat) = true
def O_rc8 : List Int × List (Int × Int) × Int × Unit → Tree (Exit × St) := fun (s, g, z, ()) => (.leaf (.exit 8, L_rc8_1.st noU ()))
def R_rc8 : LRun := runOf 274 L_rc8 (fun x => x) (inv_rc8) (O_rc8)
theorem K_rc8 : LoopOk P [] 274 none noU C_rc8 (R_rc8) := by
  refine loop_of hm (cx := []) [] (xl := X_rc8) (α := List Int × List (Int × Int) × Int × Unit) (fun x => x) (fun (s, g, z, ()) => ((s.length : Int) - z).toNat) (fun _ => rfl) (by kernel_rfl) (by kernel_rfl) ?_ (by kernel_rfl) trivial ?_
  · intro e S L' h
    unfold X_rc8 at h
    split at h <;> first | (cases h; done) | (cases h; kernel_rfl) | (rcases bif_some h with h | h <;> cases h <;> kernel_rfl)
  · rintro ⟨s, g, z, ⟨⟩⟩ hinv Q hQ
    refine hold_of_eq (B_rc8 s g z) ?_

    obtain ⟨h0, h1, h2, h3, h4⟩ := hinv
    rw [W_id (n := z + 1) (by omega) (by omega)]
    have hQ' : Q (.exit 8, L_rc8_1.st noU ()) := hQ
    refine ⟨fun c1 => ?_, fun c1 => hQ'⟩
    have d1 : z < s.length := of_decide_eq_true c1
    have hm : ((s.length : Int) - (z + 1)).toNat < ((s.length : Int) - z).toNat := by omega
    have d2 : z < g.length := by omega
    rw [inG_step h0 d1 d2, Bool.and_eq_true] at h4
    have hw := h4.1
    unfold wi at hw
    rw [Bool.and_eq_true, decide_eq_true_eq, decide_eq_true_eq] at hw
    refine ⟨⟨h0, d1⟩, ⟨h0, d2⟩, fun c2 => ?_, fun c2 => ⟨⟨h0, d1⟩, ⟨h0, d2⟩, fun c3 => ?_, fun c3 => ⟨⟨⟨by omega, by omega, h2, h3, h4.2⟩, hm⟩, hQ'⟩⟩⟩
    · have := of_decide_eq_true c2; omega
    · have := of_decide_eq_true c3; omega
theorem T_RigReached (s0 : List Int) (L : Int) (pk : List Int) : fnTree (P := P) [c_NewRing.gc, c_RigOf.gc, c_Places.gc, c_Goal8.gc, c_Mod.gc, c_Ticks.gc, c_Moves.gc, c_RNext.gc, c_awake.gc] (lpOf [(0, R_rc0), (4, R_rc4), (8, R_rc8)]) Try.f12 (encL 0 [.val tIs, .val tI, .val tIs] (s0, L, pk, ())) =
  Tree.need ((0 : Int) ≤ (0 : Int) ∧ (0 : Int) ≤ (500000000 : Int))
  (Tree.need (KRig (kRig s0 (0 : Int)) ∧ (0 : Int) ≤ kRigK s0 (0 : Int) ∧ kRigK s0 (0 : Int) ≤ (500000000 : Int))
    (Tree.need (KRig (kRig s0 (0 : Int)) ∧ (0 : Int) ≤ kPlcK s0 (kRig s0 (0 : Int)) (kRigK s0 (0 : Int)) ∧ kPlcK s0 (kRig s0 (0 : Int)) (kRigK s0 (0 : Int)) ≤ (500000000 : Int))
      (Tree.need ((0 : Int) < (3 : Int) ∧ R64 (3 : Int))
        (Tree.cond ((ticksS (kRig s0 (0 : Int)) (kPlc s0 (kRig s0 (0 : Int)) (kRigK s0 (0 : Int))) (glS s0 (kRig s0 (0 : Int)).fst (kPlcK s0 (kRig s0 (0 : Int)) (kRigK s0 (0 : Int)))) (L % (3 : Int))).snd != (0 : Int)) (Tree.cond ((ticksS (kRig s0 (0 : Int)) (kPlc s0 (kRig s0 (0 : Int)) (kRigK s0 (0 : Int))) (glS s0 (kRig s0 (0 : Int)).fst (kPlcK s0 (kRig s0 (0 : Int)) (kRigK s0 (0 : Int)))) (L % (3 : Int))).snd == (13 : Int)) (Tree.leaf (SV.bool true)) (Tree.cond ((ticksS (kRig s0 (0 : Int)) (kPlc s0 (kRig s0 (0 : Int)) (kRigK s0 (0 : Int))) (glS s0 (kRig s0 (0 : Int)).fst (kPlcK s0 (kRig s0 (0 : Int)) (kRigK s0 (0 : Int)))) (L % (3 : Int))).snd == (12 : Int)) (Tree.leaf (SV.bool true)) (Tree.leaf (SV.bool false))))
          (Tree.cond ((↑(List.length (movesS (kRig s0 (0 : Int)) (kPlc s0 (kRig s0 (0 : Int)) (kRigK s0 (0 : Int))))) : Int) == (0 : Int)) (Tree.leaf (SV.bool false))
            (Tree.need ((0 : Int) ≤ kPlcK s0 (kRig s0 (0 : Int)) (kRigK s0 (0 : Int)) + (2 : Int) * (↑(List.length (kRig s0 (0 : Int)).fst) : Int) ∧ kPlcK s0 (kRig s0 (0 : Int)) (kRigK s0 (0 : Int)) + (2 : Int) * (↑(List.length (kRig s0 (0 : Int)).fst) : Int) < (1099511627776 : Int) ∧ (0 : Int) < (↑(List.length (movesS (kRig s0 (0 : Int)) (kPlc s0 (kRig s0 (0 : Int)) (kRigK s0 (0 : Int))))) : Int))
              (Tree.need ((0 : Int) ≤ rnS s0 (kPlcK s0 (kRig s0 (0 : Int)) (kRigK s0 (0 : Int)) + (2 : Int) * (↑(List.length (kRig s0 (0 : Int)).fst) : Int)) (↑(List.length (movesS (kRig s0 (0 : Int)) (kPlc s0 (kRig s0 (0 : Int)) (kRigK s0 (0 : Int))))) : Int) ∧ rnS s0 (kPlcK s0 (kRig s0 (0 : Int)) (kRigK s0 (0 : Int)) + (2 : Int) * (↑(List.length (kRig s0 (0 : Int)).fst) : Int)) (↑(List.length (movesS (kRig s0 (0 : Int)) (kPlc s0 (kRig s0 (0 : Int)) (kRigK s0 (0 : Int))))) : Int) < (↑(List.length (movesS (kRig s0 (0 : Int)) (kPlc s0 (kRig s0 (0 : Int)) (kRigK s0 (0 : Int))))) : Int))
                (Tree.need (inv_rc0 (L % (3 : Int), pk, (), kPlc s0 (kRig s0 (0 : Int)) (kRigK s0 (0 : Int)), glS s0 (kRig s0 (0 : Int)).fst (kPlcK s0 (kRig s0 (0 : Int)) (kRigK s0 (0 : Int))), (ticksS (kRig s0 (0 : Int)) (kPlc s0 (kRig s0 (0 : Int)) (kRigK s0 (0 : Int))) (glS s0 (kRig s0 (0 : Int)).fst (kPlcK s0 (kRig s0 (0 : Int)) (kRigK s0 (0 : Int)))) (L % (3 : Int))).fst, (0 : Int), true, List.getD (movesS (kRig s0 (0 : Int)) (kPlc s0 (kRig s0 (0 : Int)) (kRigK s0 (0 : Int)))) (Int.toNat (rnS s0 (kPlcK s0 (kRig s0 (0 : Int)) (kRigK s0 (0 : Int)) + (2 : Int) * (↑(List.length (kRig s0 (0 : Int)).fst) : Int)) (↑(List.length (movesS (kRig s0 (0 : Int)) (kPlc s0 (kRig s0 (0 : Int)) (kRigK s0 (0 : Int))))) : Int))) [], (0 : Int), (kRig s0 (0 : Int)).fst, (kRig s0 (0 : Int)).snd, ()))
                  (Tree.cond (raC (kRig s0 (0 : Int)) (glS s0 (kRig s0 (0 : Int)).fst (kPlcK s0 (kRig s0 (0 : Int)) (kRigK s0 (0 : Int)))) (L % (3 : Int)) (kPlc s0 (kRig s0 (0 : Int)) (kRigK s0 (0 : Int))) (List.getD (movesS (kRig s0 (0 : Int)) (kPlc s0 (kRig s0 (0 : Int)) (kRigK s0 (0 : Int)))) (Int.toNat (rnS s0 (kPlcK s0 (kRig s0 (0 : Int)) (kRigK s0 (0 : Int)) + (2 : Int) * (↑(List.length (kRig s0 (0 : Int)).fst) : Int)) (↑(List.length (movesS (kRig s0 (0 : Int)) (kPlc s0 (kRig s0 (0 : Int)) (kRigK s0 (0 : Int))))) : Int))) []) (ticksS (kRig s0 (0 : Int)) (kPlc s0 (kRig s0 (0 : Int)) (kRigK s0 (0 : Int))) (glS s0 (kRig s0 (0 : Int)).fst (kPlcK s0 (kRig s0 (0 : Int)) (kRigK s0 (0 : Int)))) (L % (3 : Int))).fst (Int.toNat ((8 : Int) - (0 : Int))) (0 : Int) ((0 : Int), true)).snd (Tree.cond (decide ((raC (kRig s0 (0 : Int)) (glS s0 (kRig s0 (0 : Int)).fst (kPlcK s0 (kRig s0 (0 : Int)) (kRigK s0 (0 : Int)))) (L % (3 : Int)) (kPlc s0 (kRig s0 (0 : Int)) (kRigK s0 (0 : Int))) (List.getD (movesS (kRig s0 (0 : Int)) (kPlc s0 (kRig s0 (0 : Int)) (kRigK s0 (0 : Int)))) (Int.toNat (rnS s0 (kPlcK s0 (kRig s0 (0 : Int)) (kRigK s0 (0 : Int)) + (2 : Int) * (↑(List.length (kRig s0 (0 : Int)).fst) : Int)) (↑(List.length (movesS (kRig s0 (0 : Int)) (kPlc s0 (kRig s0 (0 : Int)) (kRigK s0 (0 : Int))))) : Int))) []) (ticksS (kRig s0 (0 : Int)) (kPlc s0 (kRig s0 (0 : Int)) (kRigK s0 (0 : Int))) (glS s0 (kRig s0 (0 : Int)).fst (kPlcK s0 (kRig s0 (0 : Int)) (kRigK s0 (0 : Int)))) (L % (3 : Int))).fst (Int.toNat ((8 : Int) - (0 : Int))) (0 : Int) ((0 : Int), true)).fst < IntKind.wrap IntKind.i64 ((ticksS (kRig s0 (0 : Int)) (kPlc s0 (kRig s0 (0 : Int)) (kRigK s0 (0 : Int))) (glS s0 (kRig s0 (0 : Int)).fst (kPlcK s0 (kRig s0 (0 : Int)) (kRigK s0 (0 : Int)))) (L % (3 : Int))).fst - (1 : Int)))) (Tree.leaf (SV.bool false)) (Tree.need (inv_rc4 (pk, (), kPlc s0 (kRig s0 (0 : Int)) (kRigK s0 (0 : Int)), glS s0 (kRig s0 (0 : Int)).fst (kPlcK s0 (kRig s0 (0 : Int)) (kRigK s0 (0 : Int))), (ticksS (kRig s0 (0 : Int)) (kPlc s0 (kRig s0 (0 : Int)) (kRigK s0 (0 : Int))) (glS s0 (kRig s0 (0 : Int)).fst (kPlcK s0 (kRig s0 (0 : Int)) (kRigK s0 (0 : Int)))) (L % (3 : Int))).fst, L % (3 : Int), (0 : Int), (kRig s0 (0 : Int)).fst, (kRig s0 (0 : Int)).snd, ())) (Tree.need (inv_rc8 (rbR (kRig s0 (0 : Int)) (glS s0 (kRig s0 (0 : Int)).fst (kPlcK s0 (kRig s0 (0 : Int)) (kRigK s0 (0 : Int)))) pk (Int.toNat ((65 : Int) - (0 : Int))) (kPlc s0 (kRig s0 (0 : Int)) (kRigK s0 (0 : Int))) (ticksS (kRig s0 (0 : Int)) (kPlc s0 (kRig s0 (0 : Int)) (kRigK s0 (0 : Int))) (glS s0 (kRig s0 (0 : Int)).fst (kPlcK s0 (kRig s0 (0 : Int)) (kRigK s0 (0 : Int)))) (L % (3 : Int))).fst (L % (3 : Int)) (0 : Int), glS s0 (kRig s0 (0 : Int)).fst (kPlcK s0 (kRig s0 (0 : Int)) (kRigK s0 (0 : Int))), (0 : Int), ())) (Tree.leaf (SV.bool true))))) (Tree.need (inv_rc4 (pk, (), kPlc s0 (kRig s0 (0 : Int)) (kRigK s0 (0 : Int)), glS s0 (kRig s0 (0 : Int)).fst (kPlcK s0 (kRig s0 (0 : Int)) (kRigK s0 (0 : Int))), (ticksS (kRig s0 (0 : Int)) (kPlc s0 (kRig s0 (0 : Int)) (kRigK s0 (0 : Int))) (glS s0 (kRig s0 (0 : Int)).fst (kPlcK s0 (kRig s0 (0 : Int)) (kRigK s0 (0 : Int)))) (L % (3 : Int))).fst, L % (3 : Int), (0 : Int), (kRig s0 (0 : Int)).fst, (kRig s0 (0 : Int)).snd, ())) (Tree.need (inv_rc8 (rbR (kRig s0 (0 : Int)) (glS s0 (kRig s0 (0 : Int)).fst (kPlcK s0 (kRig s0 (0 : Int)) (kRigK s0 (0 : Int)))) pk (Int.toNat ((65 : Int) - (0 : Int))) (kPlc s0 (kRig s0 (0 : Int)) (kRigK s0 (0 : Int))) (ticksS (kRig s0 (0 : Int)) (kPlc s0 (kRig s0 (0 : Int)) (kRigK s0 (0 : Int))) (glS s0 (kRig s0 (0 : Int)).fst (kPlcK s0 (kRig s0 (0 : Int)) (kRigK s0 (0 : Int)))) (L % (3 : Int))).fst (L % (3 : Int)) (0 : Int), glS s0 (kRig s0 (0 : Int)).fst (kPlcK s0 (kRig s0 (0 : Int)) (kRigK s0 (0 : Int))), (0 : Int), ())) (Tree.leaf (SV.bool true))))))))))))) := by kernel_rfl

def c_RigReached : PC P := PC.of (α := List Int × Int × List Int × Unit) 12 [.val tIs, .val tI, .val tIs] (fun x => x) (fun x => x) (fun _ => rfl)
  (fun _ => none)
  (fun x => .bool true) (by kernel_rfl) (by
    rintro ⟨s0, L, pk, ⟨⟩⟩ hp
    refine fn_of hm (by kernel_rfl) (by kernel_rfl) (T_RigReached s0 L pk) ⟨K_rc0, K_rc4, K_rc8, trivial⟩ ?_

    try dsimp only at hp
    try dsimp only
    obtain ⟨hk, hk1, hk2⟩ := kRig_ok (l := s0) (k := 0) (by decide)
    obtain ⟨v, v1, v2⟩ := kPlc_ok (l := s0) hk hk1
    have hg := goal_ok (l := s0) hk (k := kPlcK s0 (kRig s0 0) (kRigK s0 0)) (by omega)
    have l3 := hk.l3
    have l2 := hk.l2
    have sl := v.sl
    generalize kPlc s0 (kRig s0 0) (kRigK s0 0) = s at *
    generalize kPlcK s0 (kRig s0 0) (kRigK s0 0) = k1 at *
    generalize kRigK s0 0 = k0 at *
    generalize kRig s0 0 = r at *
    have gl := (goalS_ok hg).2.1
    generalize glS s0 r.1 k1 = g at *
    have hL0 := Int.emod_nonneg L (show (3 : Int) ≠ 0 by decide)
    have hL1 := Int.emod_lt_of_pos L (show (0 : Int) < 3 by decide)
    generalize L % 3 = L' at *
    obtain ⟨l, rfl⟩ : ∃ l : Nat, L' = l := ⟨L'.toNat, by omega⟩
    have hT := ticksS_of hk.ck hg (losses := l) (by omega) v
    have htr := tickD_rng r.1 r.2 g l s
    generalize hTT : ticksS r s g l = T at *
    refine ⟨⟨by decide, by decide⟩, ⟨hk, hk1, by omega⟩, ⟨hk, by omega, by omega⟩, ⟨by decide, by decide, by decide⟩, fun c1 => ⟨fun c2 => rfl, fun c2 => ⟨fun c3 => rfl, fun c3 => ?_⟩⟩, fun c1 => ?_⟩
    · exfalso
      split at hT
      · split at hT
        · rw [hT] at c2; cases c2
        · rw [hT] at c1; cases c1
      · rw [hT] at c3; cases c3
    have d1 : T.2 = 0 := by simpa using c1
    have hsafe : safeS r.1 r.2 s = true := by
      cases c : safeS r.1 r.2 s with
      | true => rfl
      | false => rw [c, if_neg (by simp)] at hT; rw [hT] at d1; cases d1
    rw [hsafe, if_pos rfl] at hT
    have hn0 : ¬ tickD r.1 r.2 g l s < 0 := fun h => by rw [if_pos h] at hT; rw [hT] at d1; cases d1
    rw [if_neg hn0] at hT
    have hT1 : T.1 = tickD r.1 r.2 g l s := by rw [hT]
    have hs : Sf r s := ⟨hk.ck, v, hsafe⟩
    obtain ⟨z1, z2, z3⟩ := zero_ok hs
    have d := hs.state
    have zm : List.replicate s.length 0 ∈ movesS r s := (movesS_mem d).2 ⟨mem_allM (by rw [List.length_replicate]) z1, z3⟩
    have hlen := movesS_len r s
    have hpos : 0 < (movesS r s).length := List.length_pos_of_mem zm
    have hrn := rnS_rng (l := s0) (k := k1 + 2 * (r.1.length : Int)) (n := ((movesS r s).length : Int)) (by omega) (by omega)
    have hmm := getD_mem (d := ([] : List Int)) (show (rnS s0 (k1 + 2 * (r.1.length : Int)) ((movesS r s).length : Int)).toNat < (movesS r s).length by omega)
    generalize (movesS r s).getD (rnS s0 (k1 + 2 * (r.1.length : Int)) ((movesS r s).length : Int)).toNat [] = m at *
    obtain ⟨m1, m2⟩ := (movesS_mem d).1 hmm
    rw [hT1]
    have hrb := rb_ok (pk := pk) hg 65 s (tickD r.1 r.2 g l s) l 0
    generalize hX : tickD r.1 r.2 g l s = n at *
    have hrb' := hrb (by omega) (by omega) (by omega) (by omega) (by omega) hs (by rw [Int.toNat_natCast]; exact hX)
    have hz1 : inv_rc0 ((l : Int), pk, (), s, g, n, 0, true, m, 0, r.1, r.2, ()) := ⟨by decide, by decide, by omega, by omega, hs, m1, m2⟩
    have hz4 : inv_rc4 (pk, (), s, g, n, (l : Int), 0, r.1, r.2, ()) := ⟨by omega, by omega, by decide, by omega, by omega, by omega, hs, hg, by rw [Int.toNat_natCast]; exact hX⟩
    have hz8 : inv_rc8 (rbR r g pk 65 s n l 0, g, 0, ()) := ⟨by decide, by omega, by rw [hrb'.2]; omega, by rw [hrb'.2]; exact gl, by rw [Int.toNat_zero, List.drop_zero, List.drop_zero]; exact hrb'.1⟩
    have key : (raC r g l s m n 8 0 (0, true)).2 = true → ¬ (raC r g l s m n 8 0 (0, true)).1 < n - 1 := fun h1 h2 => by
      by_cases c : 0 < n
      · unfold raC at h1 h2
        rw [if_pos c] at h1 h2
        rw [← hX] at c h2
        exact sure_not hs hg l3 (by omega) m1 m2 c h1 h2
      · rw [raC_no c] at h2
        dsimp only at h2
        omega
    refine ⟨fun c4 => ?_, fun c4 => ⟨⟨by omega, by omega, by omega⟩, ⟨hrn.1, hrn.2⟩, hz1, fun c5 => ⟨fun c6 => ?_, fun c6 => ⟨hz4, hz8, rfl⟩⟩, fun c5 => ⟨hz4, hz8, rfl⟩⟩⟩
    · have := eq_of_beq c4; omega
    · have := of_decide_eq_true c6
      rw [W_id (n := n - 1) (by omega) (by omega)] at this
      exact absurd this (key c5))

end
end Go.MR
