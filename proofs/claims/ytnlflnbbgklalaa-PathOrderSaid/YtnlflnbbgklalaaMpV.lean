/- The plain law: what the program and the reference ask of zonotopes is the same, whatever the order of the generators. -/
import Derived.Test.YtnlflnbbgklalaaMpT
namespace Go.MP
open Go Go.Sx Go.Proofs
set_option linter.unusedVariables false
set_option linter.unusedSimpArgs false
noncomputable section

/-! ### Wraps within wraps -/
theorem W_cong {a b : Int} (h : (a - b) % 18446744073709551616 = 0) : IntKind.wrap IntKind.i64 a = IntKind.wrap IntKind.i64 b := by
  have e : ∀ n : Int, IntKind.wrap IntKind.i64 n = (if n % 18446744073709551616 ≥ 9223372036854775808 then n % 18446744073709551616 - 18446744073709551616 else n % 18446744073709551616) := by
    intro n; simp [IntKind.wrap, IntKind.signed, IntKind.bits]
  have h2 : a % 18446744073709551616 = b % 18446744073709551616 := by omega
  rw [e, e, h2]
theorem W_ex (n : Int) : ∃ k, IntKind.wrap IntKind.i64 n = n + 18446744073709551616 * k := by
  have e : IntKind.wrap IntKind.i64 n = (if n % 18446744073709551616 ≥ 9223372036854775808 then n % 18446744073709551616 - 18446744073709551616 else n % 18446744073709551616) := by
    simp [IntKind.wrap, IntKind.signed, IntKind.bits]
  rw [e]
  split
  · exact ⟨-(n / 18446744073709551616) - 1, by omega⟩
  · exact ⟨-(n / 18446744073709551616), by omega⟩
theorem W_addl (a b : Int) : IntKind.wrap IntKind.i64 (IntKind.wrap IntKind.i64 a + b) = IntKind.wrap IntKind.i64 (a + b) := by
  obtain ⟨k, hk⟩ := W_ex a
  rw [hk]; apply W_cong; omega
theorem W_addr (a b : Int) : IntKind.wrap IntKind.i64 (a + IntKind.wrap IntKind.i64 b) = IntKind.wrap IntKind.i64 (a + b) := by
  obtain ⟨k, hk⟩ := W_ex b
  rw [hk]; apply W_cong; omega
theorem W_subl (a b : Int) : IntKind.wrap IntKind.i64 (IntKind.wrap IntKind.i64 a - b) = IntKind.wrap IntKind.i64 (a - b) := by
  obtain ⟨k, hk⟩ := W_ex a
  rw [hk]; apply W_cong; omega
theorem W_subr (a b : Int) : IntKind.wrap IntKind.i64 (a - IntKind.wrap IntKind.i64 b) = IntKind.wrap IntKind.i64 (a - b) := by
  obtain ⟨k, hk⟩ := W_ex b
  rw [hk]; apply W_cong; omega
theorem W_mull (a b : Int) : IntKind.wrap IntKind.i64 (IntKind.wrap IntKind.i64 a * b) = IntKind.wrap IntKind.i64 (a * b) := by
  obtain ⟨k, hk⟩ := W_ex a
  rw [hk, Int.add_mul, Int.mul_assoc]; apply W_cong; omega
theorem W_mulr (a b : Int) : IntKind.wrap IntKind.i64 (a * IntKind.wrap IntKind.i64 b) = IntKind.wrap IntKind.i64 (a * b) := by
  rw [Int.mul_comm, W_mull, Int.mul_comm]
theorem W_W (a : Int) : IntKind.wrap IntKind.i64 (IntKind.wrap IntKind.i64 a) = IntKind.wrap IntKind.i64 a := W_id (W_rng a).1 (W_rng a).2

def negV (v : V) : V := (IntKind.wrap IntKind.i64 (0 - v.1), IntKind.wrap IntKind.i64 (0 - v.2.1), IntKind.wrap IntKind.i64 (0 - v.2.2))
theorem vcross_swap (v w : V) : vcross w v = negV (vcross v w) := by
  unfold vcross negV
  simp only [W_addl, W_addr, W_subl, W_subr, Prod.mk.injEq]
  refine ⟨?_, ?_, ?_⟩
  · rw [Int.mul_comm w.2.1, Int.mul_comm w.2.2]; apply W_cong; omega
  · rw [Int.mul_comm w.2.2, Int.mul_comm w.1]; apply W_cong; omega
  · rw [Int.mul_comm w.1, Int.mul_comm w.2.1]; apply W_cong; omega
theorem vdot_neg (n g : V) : vdot (negV n) g = IntKind.wrap IntKind.i64 (0 - vdot n g) := by
  unfold vdot negV
  simp only [W_addl, W_addr, W_subl, W_subr, W_mull]
  apply W_cong
  simp only [Int.sub_mul, Int.zero_mul]
  omega
theorem absI_neg {m : Int} (h : R64 m) : absI (IntKind.wrap IntKind.i64 (0 - m)) = absI m := by
  unfold absI
  rw [W_subr]
  have e : IntKind.wrap IntKind.i64 (0 - (0 - m)) = m := by
    rw [show (0 : Int) - (0 - m) = m by omega]
    exact W_id h.1 h.2
  rw [e]
  unfold maxI
  split <;> split <;> omega
theorem R64_vdot (n g : V) : R64 (vdot n g) := R64_W _
theorem reachR_cons (n : V) (a : Int) (g : V) (s : List V) : reachR n a (g :: s) = reachR n (IntKind.wrap IntKind.i64 (a + absI (vdot n g))) s := rfl
theorem reachR_neg (n : V) : ∀ (s : List V) (a : Int), reachR (negV n) a s = reachR n a s
  | [], a => rfl
  | g :: s, a => by
    rw [reachR_cons, reachR_cons, vdot_neg, absI_neg (R64_vdot n g)]
    exact reachR_neg n s _
theorem sepB_swap (c : V) (s : List V) (v w : V) : sepB c s v w = sepB c s w v := by
  unfold sepB
  rw [vcross_swap w v, vdot_neg, absI_neg (R64_vdot _ _), reachR_neg]
theorem reachR_perm {n : V} {s t : List V} (h : s.Perm t) (a : Int) : reachR n a s = reachR n a t := by
  unfold reachR
  refine h.foldl_eq' (fun x _ y _ z => ?_) a
  rw [W_addl, W_addl, Int.add_right_comm]
theorem sepB_perm {c : V} {s t : List V} (h : s.Perm t) (v w : V) : sepB c s v w = sepB c t v w := by
  unfold sepB
  rw [reachR_perm h]

/-! ### Pairs -/
theorem pairsF_eq {p : V → V → Bool} (hp : ∀ v w, p v w = p w v) : ∀ (r pre : List V), pairsF p pre r = ((r.any fun u => pre.any (p u)) || pairsB p r)
  | [], pre => rfl
  | u :: r, pre => by
    rw [pairsF, pairsF_eq hp r, List.any_cons, pairsB]
    have e : (r.any fun x => (pre ++ [u]).any (p x)) = ((r.any fun x => pre.any (p x)) || r.any (p u)) := by
      induction r with
      | nil => rfl
      | cons x r ih =>
        rw [List.any_cons, List.any_cons, List.any_cons, ih, List.any_append, List.any_cons, List.any_nil, Bool.or_false, hp x u]
        cases pre.any (p x) <;> cases p u x <;> cases (r.any fun x => pre.any (p x)) <;> cases r.any (p u) <;> rfl
    rw [e]
    cases pre.any (p u) <;> cases (r.any fun x => pre.any (p x)) <;> cases r.any (p u) <;> cases pairsB p r <;> rfl
theorem pairsB_perm {p : V → V → Bool} (hp : ∀ v w, p v w = p w v) {s t : List V} (h : s.Perm t) : pairsB p s = pairsB p t := by
  have any_perm : ∀ {q : V → Bool} {s t : List V}, s.Perm t → s.any q = t.any q := by
    intro q s t h
    induction h with
    | nil => rfl
    | cons x _ ih => rw [List.any_cons, List.any_cons, ih]
    | swap x y l => rw [List.any_cons, List.any_cons, List.any_cons, List.any_cons]; cases q x <;> cases q y <;> rfl
    | trans _ _ h1 h2 => exact h1.trans h2
  induction h with
  | nil => rfl
  | cons x h ih => rw [pairsB, pairsB, ih, any_perm h]
  | swap x y l =>
    simp only [pairsB, List.any_cons]
    rw [hp x y]
    cases p y x <;> cases l.any (p x) <;> cases l.any (p y) <;> rfl
  | trans _ _ h1 h2 => exact h1.trans h2
theorem pairsB_congr {p q : V → V → Bool} (h : ∀ v w, p v w = q v w) (s : List V) : pairsB p s = pairsB q s := by
  have : p = q := by funext v w; exact h v w
  rw [this]
/-- Whatever the order, the program and the reference say the same. -/
theorem empty_inside {c : V} {s t : List V} (h : s.Perm t) : emptyS c s = !rinS c t := by
  unfold emptyS rinS
  rw [Bool.not_not, pairsF_eq (sepB_swap c s), pairsB_congr (sepB_perm h), pairsB_perm (sepB_swap c t) h]
  have : (s.any fun u => ([] : List V).any (sepB c s u)) = false := by
    rw [List.any_eq_false]
    intro x _
    simp
  rw [this, Bool.false_or]

/-! ### The generators -/
theorem mid_twice (s : Src) {i : Int} (h0 : 0 ≤ i) (h : i < s.2.length) : vadd (shiftS s i) (shiftS s (i + 1)) = twiceS s i := by
  have e : shiftS s (i + 1) = vadd (shiftS s i) (s.2.getD i.toNat (0, 0, 0)) := by
    unfold shiftS
    rw [show (i + 1).toNat = i.toNat + 1 by omega, List.take_add_one, List.getElem?_eq_getElem (by omega), List.foldl_append]
    simp [List.getD, List.getElem?_eq_getElem (show i.toNat < s.2.length by omega)]
  rw [e]
  unfold twiceS vadd vmul
  simp only [W_addl, W_addr, W_mull, Prod.mk.injEq]
  exact ⟨W_cong (by omega), W_cong (by omega), W_cong (by omega)⟩
theorem wat_rof (l : List Src) (k j : Int) : watS l k j = rofS l k j false := rfl
theorem mid_rof {l : List Src} {k i : Int} (h0 : 0 ≤ i) (h : ∀ s ∈ l, i < s.2.length) : midS l k i = rofS l k i true := by
  unfold midS watS rofS
  cases ha : l.any (idB k) with
  | false => rfl
  | true =>
    simp only [cond_true]
    refine mid_twice _ h0 (h _ ?_)
    obtain ⟨h1, h2, h3⟩ := srcS_ix ha
    rw [← h3]
    exact getD_mem (by omega)

def iotaN : Int → Nat → List Int
  | _, 0 => []
  | i, k + 1 => i :: iotaN (i + 1) k
theorem mapN_eq (f : Int → V) : ∀ (i : Int) (k : Nat), mapN f i k = (iotaN i k).map f
  | _, 0 => rfl
  | i, k + 1 => by rw [mapN, iotaN, List.map_cons, mapN_eq f (i + 1) k]
theorem mem_iota : ∀ {k : Nat} {i a : Int}, a ∈ iotaN i k ↔ i ≤ a ∧ a < i + k
  | 0, i, a => by simp [iotaN]
  | k + 1, i, a => by
    rw [iotaN, List.mem_cons, mem_iota]
    omega
theorem nodup_iota : ∀ (k : Nat) (i : Int), (iotaN i k).Nodup
  | 0, i => List.nodup_nil
  | k + 1, i => by
    rw [iotaN, List.nodup_cons]
    exact ⟨fun h => by have := (mem_iota.1 h).1; omega, nodup_iota k (i + 1)⟩
theorem mem_idsR : ∀ {l : List Src} {o : List Int} {a : Int}, a ∈ idsR o l ↔ a ∈ o ∨ ∃ s ∈ l, s.1 = a
  | [], o, a => by simp [idsR]
  | s :: r, o, a => by
    rw [idsR_cons, mem_idsR]
    have : a ∈ addId o s ↔ a ∈ o ∨ s.1 = a := by
      unfold addId
      split
      · rename_i h
        have := List.contains_iff_mem.1 h
        constructor
        · exact .inl
        · rintro (h1 | h1)
          · exact h1
          · rw [← h1]; exact this
      · rw [List.mem_append, List.mem_singleton]
        constructor
        · rintro (h | h)
          · exact .inl h
          · exact .inr h.symm
        · rintro (h | h)
          · exact .inl h
          · exact .inr h.symm
    rw [this]
    simp only [List.mem_cons, exists_eq_or_imp]
    rw [or_assoc]
theorem nodup_idsR : ∀ {l : List Src} {o : List Int}, o.Nodup → (idsR o l).Nodup
  | [], o, h => h
  | s :: r, o, h => by
    rw [idsR_cons]
    refine nodup_idsR ?_
    unfold addId
    split
    · exact h
    · rename_i hc
      rw [List.nodup_append]
      refine ⟨h, by simp, fun a ha b hb e => ?_⟩
      rw [List.mem_singleton] at hb
      subst hb
      subst e
      exact hc (List.contains_iff_mem.2 ha)
theorem orderBad_mem : ∀ {l : List Src} {c : Int}, orderBad c l = false → ∀ s ∈ l, c < s.1 ∧ s.1 ≤ 99
  | [], c, _, s, hs => by cases hs
  | t :: r, c, h, s, hs => by
    rw [orderBad, Bool.or_eq_false_iff] at h
    have h1 : ¬ (t.1 ≤ c ∨ t.1 > 99) := by simpa using h.1
    rcases List.mem_cons.1 hs with rfl | hs
    · omega
    · have := orderBad_mem h.2 s hs; omega
theorem csS_ids {p : Pth} {l : List Src} (h : csS p l = 0) : ∀ s ∈ l, 1 ≤ s.1 ∧ s.1 ≤ 99 := by
  unfold csS errorsS at h
  split at h
  · split at h
    · cases h
    · split at h
      · cases h
      · rename_i h1
        intro s hs
        have := orderBad_mem (by simpa using h1) s hs
        omega
  · rename_i h1; exact absurd h h1
theorem gens_perm {f : Int → V} {la lb : List Src} (ha : ∀ s ∈ la, 1 ≤ s.1 ∧ s.1 ≤ 99) (hb : ∀ s ∈ lb, 1 ≤ s.1 ∧ s.1 ≤ 99) (hz : ∀ k, k ∉ idsS la lb → nzB (f k) = false) :
    (((idsS la lb).map f).filter nzB).Perm ((mapN f 1 99).filter nzB) := by
  rw [mapN_eq, List.filter_map, List.filter_map]
  refine List.Perm.map f ?_
  have hn : (idsS la lb).Nodup := nodup_idsR (l := la ++ lb) List.nodup_nil
  rw [List.perm_ext_iff_of_nodup (hn.filter _) ((nodup_iota 99 1).filter _)]
  intro a
  rw [List.mem_filter, List.mem_filter]
  constructor
  · rintro ⟨h1, h2⟩
    refine ⟨?_, h2⟩
    rw [mem_iota]
    rcases mem_idsR.1 h1 with h | ⟨s, hs, rfl⟩
    · cases h
    · rcases List.mem_append.1 hs with hs | hs
      · have := ha s hs; omega
      · have := hb s hs; omega
  · rintro ⟨h1, h2⟩
    refine ⟨?_, h2⟩
    cases hc : (idsS la lb).contains a with
    | true => exact List.contains_iff_mem.1 hc
    | false =>
      have : a ∉ idsS la lb := fun hm => by rw [List.contains_iff_mem.2 hm] at hc; cases hc
      have := hz a this
      simp only [Function.comp_apply] at h2
      rw [this] at h2
      cases h2
theorem any_idB {l : List Src} {k : Int} : l.any (idB k) = true ↔ ∃ s ∈ l, s.1 = k := by
  rw [List.any_eq_true]
  simp [idB]
theorem rGen_zero {la lb : List Src} {i j k : Int} {b : Bool} (h : k ∉ idsS la lb) : nzB (rGen la i lb j b k) = false := by
  have h1 : la.any (idB k) = false := by
    cases hc : la.any (idB k) with
    | false => rfl
    | true =>
      obtain ⟨s, hs, e⟩ := any_idB.1 hc
      exact absurd (mem_idsR.2 (.inr ⟨s, List.mem_append_left _ hs, e⟩)) h
  have h2 : lb.any (idB k) = false := by
    cases hc : lb.any (idB k) with
    | false => rfl
    | true =>
      obtain ⟨s, hs, e⟩ := any_idB.1 hc
      exact absurd (mem_idsR.2 (.inr ⟨s, List.mem_append_right _ hs, e⟩)) h
  unfold rGen rofS
  rw [h1, h2]
  rfl

theorem touch_same {p p' : Pth} {l l' : List Src} {i j r : Int} (h1 : csS p l = 0) (h2 : csS p' l' = 0) : touchW l (jointsS p) i l' (jointsS p') j r = rtouchW p l i p' l' j r := by
  have c1 := (csS_zero h1).1
  have c2 := (csS_zero h2).1
  unfold touchW rtouchW
  rw [show jointsS p = jl p.1 p.2 from if_pos c1, show jointsS p' = jl p'.1 p'.2 from if_pos c2]
  rw [empty_inside (t := (sharedS l i l' j false ++ boxV r).filter nzB), Bool.not_not]
  unfold tSides sharedS gens
  rw [List.nil_append, List.filter_append]
  refine List.Perm.append_right _ ?_
  have e2 : tGen l i l' j = rGen l i l' j false := by
    funext k
    unfold tGen rGen
    rw [wat_rof, wat_rof]
  rw [e2]
  exact gens_perm (f := rGen l i l' j false) (csS_ids h1) (csS_ids h2) fun k hk => rGen_zero hk

theorem sep_same {p p' : Pth} {l l' : List Src} {i j r : Int} (h1 : csS p l = 0) (h2 : csS p' l' = 0) (hi0 : 0 ≤ i) (hi : i < p.2.length) (hj0 : 0 ≤ j) (hj : j < p'.2.length) :
    separateW p.2 l (jointsS p) i p'.2 l' (jointsS p') j r = rsepW p l i p' l' j r := by
  obtain ⟨c1, _, d1⟩ := csS_zero h1
  obtain ⟨c2, _, d2⟩ := csS_zero h2
  unfold separateW rsepW
  rw [show jointsS p = jl p.1 p.2 from if_pos c1, show jointsS p' = jl p'.1 p'.2 from if_pos c2]
  refine empty_inside ?_
  have e1 : ∀ k, sGen l i l' j k = rGen l i l' j true k := fun k => by
    unfold sGen rGen
    rw [mid_rof hi0 (fun s hs => by rw [d1 s hs]; exact hi), mid_rof hj0 (fun s hs => by rw [d2 s hs]; exact hj)]
  have e2 : sGen l i l' j = rGen l i l' j true := funext e1
  unfold sSides rsepG perG gens appP sharedS
  simp only [List.filter_append, List.append_assoc]
  refine List.Perm.append_left _ ?_
  rw [e2]
  refine List.Perm.append_right _ ?_
  exact gens_perm (f := rGen l i l' j true) (csS_ids h1) (csS_ids h2) fun k hk => rGen_zero hk

end
end Go.MP
